import Derived.Test.YtinibpncbhmchaaPF
import Derived.WalkSpells
import Derived.WalkLawsBesides
namespace Go.Proofs.Ytinibpncbhmchaa.Q
open Go Go.RowKit Go.Proofs.YtinibpncbhmchaaW.PrintWords Go.Proofs.YtinibpncbhmchaaW.PrintLast Go.Proofs.YtinibpncbhmchaaW.PrintMore
theorem size_mkS (l : List UInt8) : (mkS l).size = l.length := rfl
theorem toList_mkS (l : List UInt8) : (mkS l).toList = l := by
  rw [ByteArray.toList_eq]
  simp [mkS]
theorem data_mkS (l : List UInt8) : (mkS l).data.toList = l := by simp [mkS]
theorem empty_mkS (c : UInt8) (l : List UInt8) : (mkS (c :: l)).toList.isEmpty = false := by rw [toList_mkS]; rfl
theorem drop_mkS (l : List UInt8) (n : Nat) : (mkS l).extract n (mkS l).size = mkS (l.drop n) := by
  apply ByteArray.ext
  apply Array.ext'
  rw [ByteArray.data_extract]
  simp only [mkS, Array.toList_extract, List.extract_eq_take_drop]
  rw [List.take_of_length_le (by rw [List.length_drop]; exact Nat.le_refl _)]
theorem take_mkS (l : List UInt8) (n : Nat) : (mkS l).extract 0 n = mkS (l.take n) := by
  apply ByteArray.ext
  apply Array.ext'
  rw [ByteArray.data_extract]
  simp [mkS]
theorem head_mkS (c : UInt8) (l : List UInt8) (h : 0 < (mkS (c :: l)).size) : (mkS (c :: l))[0]'h = c := rfl
theorem byte_nil (w : World) (b : Nat) (hc : w.cell? ⟨b, 0, none⟩ = some (.string (mkS []))) :
    Calls Try.prog 34 #[.pointer (some ⟨b, 0, none⟩)] w fun e w' => e = .returned (.tuple #[.int .u8 0, .bool false]) ∧ w' = w := by
  have h1 : (mkS []).toList.isEmpty = true := by rw [toList_mkS]; rfl
  go_enter Try.func34, Try.ntmps34
  go_wp2
  go_ret2
  exact ⟨rfl, rfl⟩
theorem byte_cons (w : World) (b : Nat) (c : UInt8) (t : List UInt8) (hc : w.cell? ⟨b, 0, none⟩ = some (.string (mkS (c :: t)))) (hf : w.frozen? ⟨b, 0, none⟩ = false) :
    Calls Try.prog 34 #[.pointer (some ⟨b, 0, none⟩)] w fun e w' => e = .returned (.tuple #[.int .u8 c.toNat, .bool true]) ∧ w' = w.setCell ⟨b, 0, none⟩ (.string (mkS t)) := by
  have h1 := empty_mkS c t
  have h2 : 0 < (mkS (c :: t)).size := by rw [size_mkS]; simp
  have h3 := Aside0.mk (drop_mkS (c :: t) 1)
  go_enter Try.func34, Try.ntmps34
  go_wp2
  go_ret2
  exact ⟨rfl, by rw [h3.out]; rfl⟩

/-- The rest of the bytes, in the block of a variable: what a call has left of it, and that all else stays. -/
structure Rst (w w' : World) (b : Nat) (l : List UInt8) : Prop where
  bel : Below b w w'
  keep : KeepBut w w' b none
  blk : w'.heap[b]? = some (.cells #[.string (mkS l)] 54 (0, 0))
theorem Rst.cell {w w' : World} {b : Nat} {l : List UInt8} (h : Rst w w' b l) : w'.cell? ⟨b, 0, none⟩ = some (.string (mkS l)) := (blk_cell h.blk 0).trans rfl
theorem Rst.free {w w' : World} {b : Nat} {l : List UInt8} (h : Rst w w' b l) : w'.frozen? ⟨b, 0, none⟩ = false := blk_frozen h.blk 0
theorem Rst.refl {w : World} {b : Nat} {l : List UInt8} (h : w.heap[b]? = some (.cells #[.string (mkS l)] 54 (0, 0))) : Rst w w b l := ⟨Below.refl _ _, KeepBut.refl _ _ _, h⟩
theorem Rst.set {w w' : World} {b : Nat} {l m : List UInt8} (h : Rst w w' b l) : Rst w (w'.setCell ⟨b, 0, none⟩ (.string (mkS m))) b m :=
  ⟨h.bel.setCell (p := ⟨b, 0, none⟩) (Nat.le_refl _) _, h.keep.set_ 0 _, blk_put h.blk 0 _ rfl⟩
theorem Rst.trans {w w1 w2 : World} {b : Nat} {l m : List UInt8} (h : Rst w w1 b l) (k : Rst w1 w2 b m) : Rst w w2 b m :=
  ⟨h.bel.trans k.bel, h.keep.trans k.keep (.inl rfl), k.blk⟩
/-- A byte is read. -/
theorem byte_any (w w1 : World) (b : Nat) (l : List UInt8) (h : Rst w w1 b l) :
    Calls Try.prog 34 #[.pointer (some ⟨b, 0, none⟩)] w1 fun e w' => e = .returned (.tuple #[.int .u8 (l.headD 0).toNat, .bool (!l.isEmpty)]) ∧ Rst w w' b l.tail := by
  cases l with
  | nil => exact (byte_nil w1 b h.cell).mono fun e w' ⟨he, hw⟩ => ⟨he, hw ▸ h⟩
  | cons c t => exact (byte_cons w1 b c t h.cell h.free).mono fun e w' ⟨he, hw⟩ => ⟨he, hw ▸ h.set⟩
end Go.Proofs.Ytinibpncbhmchaa.Q
