import Derived.Test.YtinibpncbhmchaaPF
import Derived.WalkSpells
import Derived.WalkLawsBesides
section
namespace Go.Proofs.Ytinibpncbhmchaa.Q
open Go Go.RowKit Go.Proofs.YtinibpncbhmchaaW.PrintWords Go.Proofs.YtinibpncbhmchaaW.PrintLast Go.Proofs.YtinibpncbhmchaaW.PrintMore
theorem size_mkS (l : List UInt8) : (mkS l).size = l.length := rfl
theorem toList_mkS (l : List UInt8) : (mkS l).toList = l := by
  rw [ByteArray.toList_eq]
  simp [mkS]
theorem data_mkS (l : List UInt8) : (mkS l).data.toList = l := by simp [mkS]
theorem empty_mkS (c : UInt8) (l : List UInt8) : (mkS (c :: l)).toList.isEmpty = false := by rw [toList_mkS]; rfl
theorem drop_mkS (l : List UInt8) (n : Nat) : (mkS l).extract n (mkS l).size = mkS (l.drop n) := by
  apply ByteArray.ext
  apply Array.ext'
  rw [ByteArray.data_extract]
  simp only [mkS, Array.toList_extract, List.extract_eq_take_drop]
  rw [List.take_of_length_le (by rw [List.length_drop]; exact Nat.le_refl _)]
theorem take_mkS (l : List UInt8) (n : Nat) : (mkS l).extract 0 n = mkS (l.take n) := by
  apply ByteArray.ext
  apply Array.ext'
  rw [ByteArray.data_extract]
  simp [mkS]
theorem head_mkS (c : UInt8) (l : List UInt8) (h : 0 < (mkS (c :: l)).size) : (mkS (c :: l))[0]'h = c := rfl
theorem byte_nil (w : World) (b : Nat) (hc : w.cell? ⟨b, 0, none⟩ = some (.string (mkS []))) :
    Calls Try.prog 34 #[.pointer (some ⟨b, 0, none⟩)] w fun e w' => e = .returned (.tuple #[.int .u8 0, .bool false]) ∧ w' = w := by
  have h1 : (mkS []).toList.isEmpty = true := by rw [toList_mkS]; rfl
  go_enter Try.func34, Try.ntmps34
  go_wp2
  go_ret2
  exact ⟨rfl, rfl⟩
theorem byte_cons (w : World) (b : Nat) (c : UInt8) (t : List UInt8) (hc : w.cell? ⟨b, 0, none⟩ = some (.string (mkS (c :: t)))) (hf : w.frozen? ⟨b, 0, none⟩ = false) :
    Calls Try.prog 34 #[.pointer (some ⟨b, 0, none⟩)] w fun e w' => e = .returned (.tuple #[.int .u8 c.toNat, .bool true]) ∧ w' = w.setCell ⟨b, 0, none⟩ (.string (mkS t)) := by
  have h1 := empty_mkS c t
  have h2 : 0 < (mkS (c :: t)).size := by rw [size_mkS]; simp
  have h3 := Aside0.mk (drop_mkS (c :: t) 1)
  go_enter Try.func34, Try.ntmps34
  go_wp2
  go_ret2
  exact ⟨rfl, by rw [h3.out]; rfl⟩

/-- The rest of the bytes, in the block of a variable: what a call has left of it, and that all else stays. -/
structure Rst (w w' : World) (b : Nat) (l : List UInt8) : Prop where
  bel : Below b w w'
  keep : KeepBut w w' b none
  blk : w'.heap[b]? = some (.cells #[.string (mkS l)] 54 (0, 0))
theorem Rst.cell {w w' : World} {b : Nat} {l : List UInt8} (h : Rst w w' b l) : w'.cell? ⟨b, 0, none⟩ = some (.string (mkS l)) := (blk_cell h.blk 0).trans rfl
theorem Rst.free {w w' : World} {b : Nat} {l : List UInt8} (h : Rst w w' b l) : w'.frozen? ⟨b, 0, none⟩ = false := blk_frozen h.blk 0
theorem Rst.refl {w : World} {b : Nat} {l : List UInt8} (h : w.heap[b]? = some (.cells #[.string (mkS l)] 54 (0, 0))) : Rst w w b l := ⟨Below.refl _ _, KeepBut.refl _ _ _, h⟩
theorem Rst.set {w w' : World} {b : Nat} {l m : List UInt8} (h : Rst w w' b l) : Rst w (w'.setCell ⟨b, 0, none⟩ (.string (mkS m))) b m :=
  ⟨h.bel.setCell (p := ⟨b, 0, none⟩) (Nat.le_refl _) _, h.keep.set_ 0 _, blk_put h.blk 0 _ rfl⟩
theorem Rst.trans {w w1 w2 : World} {b : Nat} {l m : List UInt8} (h : Rst w w1 b l) (k : Rst w1 w2 b m) : Rst w w2 b m :=
  ⟨h.bel.trans k.bel, h.keep.trans k.keep (.inl rfl), k.blk⟩
/-- A byte is read. -/
theorem byte_any (w w1 : World) (b : Nat) (l : List UInt8) (h : Rst w w1 b l) :
    Calls Try.prog 34 #[.pointer (some ⟨b, 0, none⟩)] w1 fun e w' => e = .returned (.tuple #[.int .u8 (l.headD 0).toNat, .bool (!l.isEmpty)]) ∧ Rst w w' b l.tail := by
  cases l with
  | nil => exact (byte_nil w1 b h.cell).mono fun e w' ⟨he, hw⟩ => ⟨he, hw ▸ h⟩
  | cons c t => exact (byte_cons w1 b c t h.cell h.free).mono fun e w' ⟨he, hw⟩ => ⟨he, hw ▸ h.set⟩
end Go.Proofs.Ytinibpncbhmchaa.Q
end
section
namespace Go.Proofs.Ytinibpncbhmchaa.Q
open Go Go.RowKit Go.Proofs.YtinibpncbhmchaaW.PrintWords Go.Proofs.YtinibpncbhmchaaW.PrintLast Go.Proofs.YtinibpncbhmchaaW.PrintMore
theorem pow7 (j : Nat) (hj : j < 9) : (2 : Nat) ^ (7 * j) ≤ 72057594037927936 := by
  have h : (2 : Nat) ^ (7 * j) ≤ 2 ^ 56 := Nat.pow_le_pow_right (by decide) (by omega)
  simpa using h
theorem p63 : (2 : Nat) ^ 63 = 9223372036854775808 := by decide +kernel
theorem wraps_i64 (n : Int) (h₀ : 0 ≤ n) (h₁ : n < 2 ^ 63) : IntKind.i64.wrap n = n := by rw [IntKind.wrap_i64]; omega
theorem or64 (a b : Nat) (ha : a < 9223372036854775808) (hb : b < 9223372036854775808) : bits .or .i64 (a : Int) (b : Int) = ((a ||| b : Nat) : Int) := by
  rw [← p63] at ha hb
  exact (bits_nat .i64 63 (by decide) wraps_i64 a b ha hb).2
theorem or_low (j a k : Nat) (ha : a < 2 ^ (7 * j)) : a ||| k * 2 ^ (7 * j) = a + k * 2 ^ (7 * j) := by
  rw [Nat.or_comm, Nat.mul_comm k, ← Nat.two_pow_add_eq_or_of_lt ha k, Nat.add_comm]
theorem and127 (c : UInt8) : bits .and .u8 (c.toNat : Int) 127 = ((c.toNat % 128 : Nat) : Int) := by
  have hc : c.toNat < 256 := c.toNat_lt
  have := bits_mask .u8 8 (by decide) wraps_u8 7 (by decide) (c.toNat : Int) (by omega) (by omega)
  simpa using this
theorem wrap64_nat (n : Nat) (h : n < 9223372036854775808) : wrap64 (n : Int) = (n : Int) := by unfold wrap64; omega
theorem pow7_succ (j : Nat) : (2 : Nat) ^ (7 * (j + 1)) = 128 * 2 ^ (7 * j) := by rw [show 7 * (j + 1) = 7 * j + 7 by omega, Nat.pow_add, Nat.mul_comm]
theorem num_core (a k q : Nat) (ha : a < q) (hk : k < 128) (hq : q ≤ 72057594037927936) (hor : a ||| k * q = a + k * q) :
    bits .or .i64 (a : Int) (wrap64 (wrap64 (k : Int) * (q : Int))) = ((a + k * q : Nat) : Int) ∧ a + k * q < 128 * q := by
  have h1 : k * q ≤ 127 * q := Nat.mul_le_mul_right _ (by omega)
  rw [wrap64_nat k (by omega), ← Int.natCast_mul, wrap64_nat (k * q) (by omega), or64 a (k * q) (by omega) (by omega), hor]
  exact ⟨rfl, by omega⟩
/-- What a byte of a number adds. -/
theorem num_step (j : Nat) (hj : j < 9) (m : Int) (h0 : 0 ≤ m) (h1 : m < 2 ^ (7 * j)) (c : UInt8) :
    bits .or .i64 m (wrap64 (wrap64 (bits .and .u8 (c.toNat : Int) 127) * 2 ^ (7 * j))) = m + ((c.toNat % 128 : Nat) : Int) * 2 ^ (7 * j) ∧
      0 ≤ m + ((c.toNat % 128 : Nat) : Int) * 2 ^ (7 * j) ∧ m + ((c.toNat % 128 : Nat) : Int) * 2 ^ (7 * j) < 2 ^ (7 * (j + 1)) := by
  obtain ⟨a, rfl⟩ := Int.eq_ofNat_of_zero_le h0
  have ha : a < 2 ^ (7 * j) := by exact_mod_cast h1
  have c2 : ((2 : Int) ^ (7 * j)) = ((2 ^ (7 * j) : Nat) : Int) := by simp
  have c3 : ((2 : Int) ^ (7 * (j + 1))) = ((2 ^ (7 * (j + 1)) : Nat) : Int) := by simp
  obtain ⟨e, hl⟩ := num_core a (c.toNat % 128) (2 ^ (7 * j)) ha (Nat.mod_lt _ (by decide)) (pow7 j hj) (or_low j a _ ha)
  rw [and127, c2, e, c3, pow7_succ, ← Int.natCast_mul, ← Int.natCast_add]
  exact ⟨rfl, Int.natCast_nonneg _, Int.ofNat_lt.mpr hl⟩
end Go.Proofs.Ytinibpncbhmchaa.Q
end
section
namespace Go.Proofs.Ytinibpncbhmchaa.Q
open Go Go.RowKit Go.Proofs.YtinibpncbhmchaaW.PrintWords Go.Proofs.YtinibpncbhmchaaW.PrintLast Go.Proofs.YtinibpncbhmchaaW.PrintMore
theorem numR_nil (f sh : Nat) (m : Int) : numR (f + 1) sh m [] = ((0, false), []) := rfl
theorem numR_cons (f sh : Nat) (m : Int) (c : UInt8) (t : List UInt8) : numR (f + 1) sh m (c :: t) =
    if c < 128 then ((m + (c.toNat : Int) * 2 ^ sh, (decide (0 < c.toNat) || sh == 0) && decide (m + (c.toNat : Int) * 2 ^ sh ≤ 4611686018427387904)), t)
      else numR f (sh + 7) (m + ((c.toNat % 128 : Nat) : Int) * 2 ^ sh) t := rfl
set_option maxRecDepth 100000 in
theorem num_any (w w1 : World) (b : Nat) (l : List UInt8) (h : Rst w w1 b l) :
    Calls Try.prog 35 #[.pointer (some ⟨b, 0, none⟩)] w1 fun e w' => e = .returned (.tuple #[.int .i64 (numR 9 0 0 l).1.1, .bool (numR 9 0 0 l).1.2]) ∧ Rst w w' b (numR 9 0 0 l).2 := by
  have H0 := Aside0.mk h
  clear h
  go_enter Try.func35, Try.ntmps35
  go_wp2
  go_loopw [4, 5] (fun n sh wr => ∃ (j : Nat) (m : Int) (l' : List UInt8), j ≤ 9 ∧ n = .int .i64 m ∧ sh = .int .i64 (7 * (j : Int)) ∧ Aside0 (0 ≤ m ∧ m < 2 ^ (7 * j)) ∧ Aside0 (numR (9 - j) (7 * j) m l' = numR 9 0 0 l) ∧ Aside0 (Rst w wr b l')) (fun _ sh _ => 63 - (intOf sh).toNat)
  case atStart => exact ⟨0, 0, l, by omega, rfl, rfl, ⟨by decide⟩, ⟨rfl⟩, H0⟩
  case round =>
    obtain ⟨j, m, l', hj, rfl, rfl, HM, HN, HR⟩ := hrel
    by_cases hj9 : j < 9
    · cases l' with
      | nil =>
        go_wp2_with (go_at_call 34; refine (byte_any w _ b [] HR.out).mono ?_; rintro e w' ⟨rfl, HR'⟩)
        go_ret2
        rw [← HN.out, show 9 - j = (8 - j) + 1 by omega, numR_nil]
        exact ⟨rfl, HR'⟩
      | cons c t =>
        obtain ⟨e1, e2, e3⟩ := num_step j hj9 m HM.out.1 HM.out.2 c
        obtain ⟨x, hx⟩ : ∃ x, m + ((c.toNat % 128 : Nat) : Int) * 2 ^ (7 * j) = x := ⟨_, rfl⟩
        rw [hx] at e1 e2 e3
        have HX := Aside0.mk hx
        have HE := Aside0.mk e3
        clear hx e3
        by_cases hc : (c.toNat : Int) < 128
        · have hx' : x = m + (c.toNat : Int) * 2 ^ (7 * j) := by rw [← HX.out, Nat.mod_eq_of_lt (by omega)]
          have hN := HN.out
          rw [show 9 - j = (8 - j) + 1 by omega, numR_cons, if_pos (by rw [UInt8.lt_iff_toNat_lt]; show c.toNat < 128; omega), ← hx'] at hN
          have HN' := Aside0.mk hN
          clear hN hx' HX HN HE
          by_cases hc0 : 0 < c.toNat
          · have b1 : decide (0 < c.toNat) = true := decide_eq_true hc0
            by_cases hm : x ≤ 4611686018427387904
            all_goals
              go_wp2_with (go_at_call 34; refine (byte_any w _ b (c :: t) HR.out).mono ?_; rintro e w' ⟨rfl, HR'⟩)
              go_ret2
              rw [← HN'.out]
              exact ⟨by simp [hc0, hm], HR'⟩
          · have b1 : decide (0 < c.toNat) = false := decide_eq_false hc0
            have b2 : c.toNat = 0 := by omega
            have e0 : bits .or .i64 m (wrap64 (wrap64 (bits .and .u8 0 127) * 2 ^ (7 * j))) = x := by rw [← e1, b2]; rfl
            by_cases hj0 : j = 0
            · subst hj0
              have e9 : bits .or .i64 m (wrap64 (wrap64 (bits .and .u8 0 127))) = x := by simpa using e0
              by_cases hm : x ≤ 4611686018427387904
              all_goals
                go_wp2_with (go_at_call 34; refine (byte_any w _ b (c :: t) HR.out).mono ?_; rintro e w' ⟨rfl, HR'⟩)
                go_ret2
                rw [← HN'.out]
                exact ⟨by simp [hm], HR'⟩
            · go_wp2_with (go_at_call 34; refine (byte_any w _ b (c :: t) HR.out).mono ?_; rintro e w' ⟨rfl, HR'⟩)
              go_ret2
              rw [← HN'.out]
              exact ⟨by simp [b2]; omega, HR'⟩
        · go_wp2_with (go_at_call 34; refine (byte_any w _ b (c :: t) HR.out).mono ?_; rintro e w' ⟨rfl, HR'⟩)
          go_roundw
          case rel => exact ⟨j + 1, x, t, by omega, rfl, by go_num, ⟨e2, HE.out⟩, ⟨by rw [← HN.out, show 9 - j = (8 - j) + 1 by omega, numR_cons, if_neg (by rw [UInt8.lt_iff_toNat_lt]; show ¬ c.toNat < 128; omega), HX.out, show 9 - (j + 1) = 8 - j by omega]; rfl⟩, ⟨HR'⟩⟩
          case measure => simp [intOf]; omega
    · obtain rfl : j = 9 := by omega
      go_wp2
      go_ret2
      rw [← HN.out]
      exact ⟨rfl, HR.out⟩
end Go.Proofs.Ytinibpncbhmchaa.Q
end
section
namespace Go.Proofs.Ytinibpncbhmchaa.Q
open Go Go.RowKit Go.Proofs.YtinibpncbhmchaaW.PrintWords Go.Proofs.YtinibpncbhmchaaW.PrintLast Go.Proofs.YtinibpncbhmchaaW.PrintMore
set_option linter.unusedSimpArgs false
set_option linter.unusedVariables false
theorem Rst.alloc {w w' : World} {b : Nat} {l : List UInt8} (h : Rst w w' b l) (o : Obj) : Rst w (w'.alloc o) b l :=
  ⟨h.bel.alloc (Nat.le_of_lt (blk_lt h.blk)) o, h.keep.trans (KeepBut.of_below ((Below.refl _ w').alloc (Nat.le_refl _) o) b none) (.inl rfl), blk_alloc h.blk o⟩
theorem Rst.self {w w' : World} {b : Nat} {l : List UInt8} (h : Rst w w' b l) : Rst w' w' b l := Rst.refl h.blk
theorem Rst.far {w w' : World} {b : Nat} {l : List UInt8} (h : Rst w w' b l) {g j : Nat} (hg : b < g) (hw : w.heap.size ≤ g) (u : Value) : Rst w (w'.setCell ⟨g, j, none⟩ u) b l :=
  ⟨h.bel.setCell (p := ⟨g, j, none⟩) (Nat.le_of_lt hg) _, ⟨by simpa [World.setCell] using h.keep.1, fun i hi hb hr => (Below.heap_setCell w' ⟨g, j, none⟩ u i (by show i ≠ g; omega)).trans (h.keep.2 i hi hb hr)⟩, blk_far h.blk (by show b ≠ g; omega) u⟩
theorem text_no (w : World) (b : Nat) (l : List UInt8) (n : Int) (h : Rst w w b l) (hn : (l.length : Int) < n ∨ 4096 < n) :
    Calls Try.prog 36 #[.pointer (some ⟨b, 0, none⟩), .int .i64 n] w fun e w' => e = .returned (.tuple #[.string (mkS []), .bool false]) ∧ w' = w := by
  have hc := h.cell
  have hs : (mkS l).size = l.length := rfl
  have hz : mkS [] = ⟨#[]⟩ := rfl
  rw [hz]
  clear hz h
  by_cases h1 : ((mkS l).size : Int) < n
  · have b1 : decide (((mkS l).size : Int) < n) = true := decide_eq_true h1
    clear hs
    go_enter Try.func36, Try.ntmps36
    go_wp2
    go_ret2
    exact ⟨rfl, rfl⟩
  · have h2 : 4096 < n := by omega
    have b1 : decide (((mkS l).size : Int) < n) = false := decide_eq_false h1
    have b2 : decide (4096 < n) = true := decide_eq_true h2
    clear hs
    go_enter Try.func36, Try.ntmps36
    go_wp2
    go_ret2
    exact ⟨rfl, rfl⟩
theorem text_yes (w : World) (b : Nat) (l : List UInt8) (n : Int) (h : Rst w w b l) (h0 : 0 ≤ n) (h1 : n ≤ l.length) (h2 : n ≤ 4096) :
    Calls Try.prog 36 #[.pointer (some ⟨b, 0, none⟩), .int .i64 n] w fun e w' => e = .returned (.tuple #[.string (mkS (l.take n.toNat)), .bool true]) ∧ w' = w.setCell ⟨b, 0, none⟩ (.string (mkS (l.drop n.toNat))) := by
  have hc := h.cell
  have hf := h.free
  have HT := Aside0.mk (take_mkS l n.toNat)
  have HD := Aside0.mk (drop_mkS l n.toNat)
  have h1' : n ≤ ((mkS l).size : Int) := h1
  have b1 : decide (((mkS l).size : Int) < n) = false := decide_eq_false (by omega)
  have b2 : decide (4096 < n) = false := decide_eq_false (by omega)
  have h3 : (0 ≤ n) = True := eq_true h0
  have h4 : (n ≤ ((mkS l).size : Int)) = True := eq_true h1'
  clear h h1
  go_enter Try.func36, Try.ntmps36
  go_wp2
  go_ret2
  exact ⟨by rw [HT.out]; rfl, by rw [HD.out]⟩
theorem text_any (w : World) (b : Nat) (l : List UInt8) (n : Int) (h : Rst w w b l) (h0 : 0 ≤ n) :
    Calls Try.prog 36 #[.pointer (some ⟨b, 0, none⟩), .int .i64 n] w fun e w' => e = .returned (.tuple #[.string (if n > (l.length : Int) ∨ n > 4096 then mkS [] else mkS (l.take n.toNat)), .bool (if n > (l.length : Int) ∨ n > 4096 then false else true)]) ∧
      Rst w w' b (if n > (l.length : Int) ∨ n > 4096 then l else l.drop n.toNat) := by
  by_cases hn : n > (l.length : Int) ∨ n > 4096
  · rw [if_pos hn, if_pos hn, if_pos hn]
    exact (text_no w b l n h hn).mono fun e w' ⟨he, hw⟩ => ⟨he, hw ▸ h⟩
  · rw [if_neg hn, if_neg hn, if_neg hn]
    exact (text_yes w b l n h h0 (by omega) (by omega)).mono fun e w' ⟨he, hw⟩ => ⟨he, hw ▸ h.set⟩
theorem numR_nonneg (f sh : Nat) (m : Int) (l : List UInt8) (h : 0 ≤ m) : 0 ≤ (numR f sh m l).1.1 := by
  induction f generalizing sh m l with
  | zero => exact Int.le_refl 0
  | succ f ih =>
    cases l with
    | nil => exact Int.le_refl 0
    | cons c t =>
      have hp : (0 : Int) ≤ 2 ^ sh := Int.pow_nonneg (by decide)
      rw [numR_cons]
      split
      · exact Int.add_nonneg h (Int.mul_nonneg (Int.natCast_nonneg _) hp)
      · exact ih _ _ _ (Int.add_nonneg h (Int.mul_nonneg (Int.natCast_nonneg _) hp))
theorem tag_of (c : UInt8) : wrap64 ((c.toNat : Int) / 2) = ((c.toNat / 2 : Nat) : Int) := by
  have := c.toNat_lt
  unfold wrap64
  omega
theorem kind_of (c : UInt8) : wrap64 (bits .and .u8 (c.toNat : Int) 1) = ((c.toNat % 2 : Nat) : Int) := by
  have hc : c.toNat < 256 := c.toNat_lt
  have h := bits_mask .u8 8 (by decide) wraps_u8 1 (by decide) (c.toNat : Int) (by omega) (by omega)
  have h2 : bits .and .u8 (c.toNat : Int) 1 = ((c.toNat % 2 : Nat) : Int) := by simpa using h
  rw [h2]
  unfold wrap64
  omega
theorem blk4 {w : World} {g t : Nat} {a b c d : Value} (h : w.heap[g]? = some (.cells #[a, b, c, d] t (0, 0))) :
    w.cell? ⟨g, 0, none⟩ = some a ∧ w.cell? ⟨g, 1, none⟩ = some b ∧ w.cell? ⟨g, 2, none⟩ = some c ∧ w.cell? ⟨g, 3, none⟩ = some d ∧ (∀ j, w.frozen? ⟨g, j, none⟩ = false) :=
  ⟨(blk_cell h 0).trans rfl, (blk_cell h 1).trans rfl, (blk_cell h 2).trans rfl, (blk_cell h 3).trans rfl, fun j => blk_frozen h j⟩
/-- A field is read. -/
theorem field_any (w : World) (b : Nat) (l : List UInt8) (h : Rst w w b l) :
    Calls Try.prog 28 #[.pointer (some ⟨b, 0, none⟩)] w fun e w' => e = .returned (.tuple #[.agg #[.int .i64 (fldR l).1.1.f0, .int .i64 (fldR l).1.1.f1, .int .i64 (fldR l).1.1.f2, .string (fldR l).1.1.f3], .bool (fldR l).1.2]) ∧ Rst w w' b (fldR l).2 := by
  have hb : b < w.heap.size := blk_lt h.blk
  have H0 := Aside0.mk h
  clear h
  obtain ⟨c, hc⟩ : ∃ c, l.headD 0 = c := ⟨_, rfl⟩
  obtain ⟨n, ok, rest, hnum⟩ : ∃ n ok rest, numR 9 0 0 l.tail = ((n, ok), rest) := ⟨_, _, _, rfl⟩
  obtain ⟨tg, htg⟩ : ∃ x : Int, ((c.toNat / 2 : Nat) : Int) = x := ⟨_, rfl⟩
  obtain ⟨kd, hkd⟩ : ∃ x : Int, ((c.toNat % 2 : Nat) : Int) = x := ⟨_, rfl⟩
  have et := tag_of c
  have ek := kind_of c
  rw [htg] at et
  rw [hkd] at ek
  have hn0 : 0 ≤ n := by have := numR_nonneg 9 0 0 l.tail (by decide); rw [hnum] at this; exact this
  have HF := Aside0.mk (show fldR l = if ok = false ∨ tg < 1 ∨ tg > 63 then ((⟨tg, kd, 0, mkS []⟩, false), rest)
    else if kd = 0 then ((⟨tg, kd, n, mkS []⟩, true), rest)
    else if n > (rest.length : Int) ∨ n > 4096 then ((⟨tg, kd, 0, mkS []⟩, false), rest)
    else ((⟨tg, kd, 0, mkS (rest.take n.toNat)⟩, true), rest.drop n.toNat) by
      unfold fldR
      simp only [hc, hnum, htg, hkd])
  have HB1 := fun W => byte_any W W b l
  rw [hc] at HB1
  have HN := fun W W1 => num_any W W1 b l.tail
  rw [hnum] at HN
  have HB := Aside0.mk HB1
  have HN1 := Aside0.mk HN
  clear hc hnum htg hkd HB1 HN
  go_enter Try.func28, Try.ntmps28
  go_wp2_with fail
  refine (HB.out _ (H0.out.alloc _).self).mono ?_
  rintro e w1 ⟨rfl, HR1⟩
  have HA := Aside0.mk HR1
  have hlt : w.heap.size < w1.heap.size := by have := HR1.keep.1; simp at this; omega
  clear HR1
  go_wp2_with fail
  refine (HN1.out _ _ (HA.out.alloc _).self).mono ?_
  rintro e w2 ⟨rfl, HR2⟩
  have hg2 := HR2.keep.blk (blk_new w1 _) (by omega) (by simp)
  have hg1 := HR2.keep.blk (blk_alloc (HA.out.keep.blk (blk_new w _) (by omega) (by simp)) _) (by omega) (by simp)
  obtain ⟨p0, p1, p2, p3, pf⟩ := blk4 hg2
  obtain ⟨q0, q1, q2, q3, qf⟩ := blk4 hg1
  have HC := Aside0.mk HR2
  have HG1 := Aside0.mk hg1
  have HG2 := Aside0.mk hg2
  clear HR2 hg1 hg2
  have HW := Aside0.mk ((((H0.out.alloc _).trans HA.out).alloc _).trans HC.out)
  have R1 := fun j u => HW.out.far (g := w.heap.size) (j := j) hb (Nat.le_refl _) u
  clear R1
  have hb2 : b < w1.heap.size := by omega
  cases ok with
  | false =>
    go_wp2_with fail
    refine bodyPost_ret (v := .tuple #[.agg #[.int .i64 tg, .int .i64 kd, .int .i64 0, .string ⟨#[]⟩], .bool false]) (by simp [results, Try.results28, go_sem, p0, p1, p2, p3, pf, q0, q1, q2, q3, qf]) rfl ⟨?_, ?_⟩
    · rw [HF.out, if_pos (show True ∨ tg < 1 ∨ tg > 63 from .inl trivial)]
      rfl
    · rw [HF.out, if_pos (show True ∨ tg < 1 ∨ tg > 63 from .inl trivial)]
      exact (((HW.out.far hb (Nat.le_refl _) _).far hb (Nat.le_refl _) _).far hb (Nat.le_refl _) _).far hb (Nat.le_refl _) _
  | true =>
    by_cases c1 : tg < 1
    · have d1 : decide (tg < 1) = true := decide_eq_true c1
      go_wp2_with fail
      refine bodyPost_ret (v := .tuple #[.agg #[.int .i64 tg, .int .i64 kd, .int .i64 0, .string ⟨#[]⟩], .bool false]) (by simp [results, Try.results28, go_sem, p0, p1, p2, p3, pf, q0, q1, q2, q3, qf]) rfl ⟨?_, ?_⟩
      · rw [HF.out, if_pos (.inr (.inl c1))]
        rfl
      · rw [HF.out, if_pos (.inr (.inl c1))]
        exact (((HW.out.far hb (Nat.le_refl _) _).far hb (Nat.le_refl _) _).far hb (Nat.le_refl _) _).far hb (Nat.le_refl _) _
    · have d1 : decide (tg < 1) = false := decide_eq_false c1
      by_cases c2 : 63 < tg
      · have d2 : decide (63 < tg) = true := decide_eq_true c2
        go_wp2_with fail
        refine bodyPost_ret (v := .tuple #[.agg #[.int .i64 tg, .int .i64 kd, .int .i64 0, .string ⟨#[]⟩], .bool false]) (by simp [results, Try.results28, go_sem, p0, p1, p2, p3, pf, q0, q1, q2, q3, qf]) rfl ⟨?_, ?_⟩
        · rw [HF.out, if_pos (.inr (.inr c2))]
          rfl
        · rw [HF.out, if_pos (.inr (.inr c2))]
          exact (((HW.out.far hb (Nat.le_refl _) _).far hb (Nat.le_refl _) _).far hb (Nat.le_refl _) _).far hb (Nat.le_refl _) _
      · have d2 : decide (63 < tg) = false := decide_eq_false c2
        have HF' := Aside0.mk (HF.out.trans (if_neg (by rintro (h | h | h) <;> first | cases h | omega)))
        clear HF
        have hs2 : w.heap.size ≤ w1.heap.size := Nat.le_of_lt hlt
        by_cases c3 : kd = 0
        · subst c3
          go_wp2_with fail
          refine bodyPost_ret (v := .tuple #[.agg #[.int .i64 tg, .int .i64 0, .int .i64 n, .string ⟨#[]⟩], .bool true]) (by simp [results, Try.results28, go_sem, p0, p1, p2, p3, pf, q0, q1, q2, q3, qf]) rfl ⟨?_, ?_⟩
          · rw [HF'.out, if_pos trivial]
            rfl
          · rw [HF'.out, if_pos trivial]
            exact ((((HW.out.far hb2 hs2 _).far hb (Nat.le_refl _) _).far hb (Nat.le_refl _) _).far hb (Nat.le_refl _) _).far hb (Nat.le_refl _) _
        · have d3 : (kd == 0) = false := beq_eq_false_iff_ne.mpr c3
          have HT := fun W h => text_any W b rest n h hn0
          by_cases c4 : n > (rest.length : Int) ∨ n > 4096
          · simp only [if_pos c4] at HT
            have HT' := Aside0.mk HT
            have HF2 := Aside0.mk (HF'.out.trans ((if_neg c3).trans (if_pos c4)))
            clear HT HF' c4 c3
            go_wp2_with fail
            refine (HT'.out _ HC.out.self).mono ?_
            rintro e w3 ⟨rfl, HR3⟩
            have hg2 := HR3.keep.blk HG2.out (by omega) (by simp)
            have hg1 := HR3.keep.blk HG1.out (by omega) (by simp)
            clear p0 p1 p2 p3 pf q0 q1 q2 q3 qf
            obtain ⟨p0, p1, p2, p3, pf⟩ := blk4 hg2
            obtain ⟨q0, q1, q2, q3, qf⟩ := blk4 hg1
            have HW3 := Aside0.mk (HW.out.trans HR3)
            clear HR3 hg1 hg2
            go_wp2_with fail
            refine bodyPost_ret (v := .tuple #[.agg #[.int .i64 tg, .int .i64 kd, .int .i64 0, .string (mkS [])], .bool false]) (by simp [results, Try.results28, go_sem, p0, p1, p2, p3, pf, q0, q1, q2, q3, qf]) rfl ⟨?_, ?_⟩
            · (rw [HF2.out]; try rfl)
            · rw [HF2.out]
              exact ((((HW3.out.far hb2 hs2 _).far hb (Nat.le_refl _) _).far hb (Nat.le_refl _) _).far hb (Nat.le_refl _) _).far hb (Nat.le_refl _) _
          · simp only [if_neg c4] at HT
            have HT' := Aside0.mk HT
            have HF2 := Aside0.mk (HF'.out.trans ((if_neg c3).trans (if_neg c4)))
            clear HT HF' c4 c3
            go_wp2_with fail
            refine (HT'.out _ HC.out.self).mono ?_
            rintro e w3 ⟨rfl, HR3⟩
            have hg2 := HR3.keep.blk HG2.out (by omega) (by simp)
            have hg1 := HR3.keep.blk HG1.out (by omega) (by simp)
            clear p0 p1 p2 p3 pf q0 q1 q2 q3 qf
            obtain ⟨p0, p1, p2, p3, pf⟩ := blk4 hg2
            obtain ⟨q0, q1, q2, q3, qf⟩ := blk4 hg1
            have HW3 := Aside0.mk (HW.out.trans HR3)
            clear HR3 hg1 hg2
            go_wp2_with fail
            refine bodyPost_ret (v := .tuple #[.agg #[.int .i64 tg, .int .i64 kd, .int .i64 0, .string (mkS (rest.take n.toNat))], .bool true]) (by simp [results, Try.results28, go_sem, p0, p1, p2, p3, pf, q0, q1, q2, q3, qf]) rfl ⟨?_, ?_⟩
            · rw [HF2.out]
            · rw [HF2.out]
              exact ((((HW3.out.far hb2 hs2 _).far hb (Nat.le_refl _) _).far hb (Nat.le_refl _) _).far hb (Nat.le_refl _) _).far hb (Nat.le_refl _) _
end Go.Proofs.Ytinibpncbhmchaa.Q
end
section
namespace Go.Proofs.Ytinibpncbhmchaa.Q
open Go Go.RowKit Go.Proofs.YtinibpncbhmchaaW.PrintWords Go.Proofs.YtinibpncbhmchaaW.PrintLast Go.Proofs.YtinibpncbhmchaaW.PrintMore
set_option linter.unusedSimpArgs false
set_option linter.unusedVariables false
theorem numR_rest (f sh : Nat) (m : Int) (l : List UInt8) : (numR f sh m l).2.length ≤ l.length := by
  induction f generalizing sh m l with
  | zero => exact Nat.le_refl _
  | succ f ih =>
    cases l with
    | nil => exact Nat.le_refl _
    | cons c t =>
      rw [numR_cons]
      split
      · exact Nat.le_succ _
      · exact Nat.le_trans (ih _ _ _) (Nat.le_succ _)
theorem fldR_eq (l : List UInt8) (c : UInt8) (n : Int) (ok : Bool) (rest : List UInt8) (hc : l.headD 0 = c) (hn : numR 9 0 0 l.tail = ((n, ok), rest)) :
    fldR l = if ok = false ∨ ((c.toNat / 2 : Nat) : Int) < 1 ∨ ((c.toNat / 2 : Nat) : Int) > 63 then ((⟨(c.toNat / 2 : Nat), (c.toNat % 2 : Nat), 0, mkS []⟩, false), rest)
    else if ((c.toNat % 2 : Nat) : Int) = 0 then ((⟨(c.toNat / 2 : Nat), (c.toNat % 2 : Nat), n, mkS []⟩, true), rest)
    else if n > (rest.length : Int) ∨ n > 4096 then ((⟨(c.toNat / 2 : Nat), (c.toNat % 2 : Nat), 0, mkS []⟩, false), rest)
    else ((⟨(c.toNat / 2 : Nat), (c.toNat % 2 : Nat), 0, mkS (rest.take n.toNat)⟩, true), rest.drop n.toNat) := by
  unfold fldR
  simp only [hc, hn]
theorem fldR_rest (c : UInt8) (t : List UInt8) : (fldR (c :: t)).2.length ≤ t.length := by
  have h := numR_rest 9 0 0 t
  rw [fldR_eq (c :: t) c (numR 9 0 0 t).1.1 (numR 9 0 0 t).1.2 (numR 9 0 0 t).2 rfl rfl]
  generalize numR 9 0 0 t = q at h
  obtain ⟨⟨n, ok⟩, rest⟩ := q
  simp only at h ⊢
  split
  · exact h
  · split
    · exact h
    · split
      · exact h
      · show (List.drop _ _).length ≤ _
        rw [List.length_drop]
        omega
theorem decR_nil (k : Nat) (ahead : Int) (out : List S39) : decR (k + 1) ahead out [] = (out, 0) := rfl
theorem decR_cons (k : Nat) (ahead : Int) (out : List S39) (c : UInt8) (t : List UInt8) : decR (k + 1) ahead out (c :: t) =
    if (fldR (c :: t)).1.2 = false ∨ (fldR (c :: t)).1.1.f0 < ahead then ([], 5) else decR k (fldR (c :: t)).1.1.f0 (out ++ [(fldR (c :: t)).1.1]) (fldR (c :: t)).2 := rfl
set_option maxHeartbeats 1000000 in
set_option maxRecDepth 100000 in
theorem decode_yes (s : ByteArray) (r1 : List S39) (r2 : Int) (w : World) (hs : s.size ≤ 65536) (h : decR (s.size + 1) 0 [] s.data.toList = (r1, r2)) :
    Calls Try.prog 13 #[.string s] w fun e w' => ∃ v0_ : Value, e = .returned (.tuple #[v0_, .int .i64 r2]) ∧ Kd.R k39 39 w' w.heap.size (fun _ => True) v0_ r1 ∧ Below w.heap.size w w' := by
  have H := Aside0.mk h
  have hl : s.data.toList.length = s.size := by simp
  have HL := Aside0.mk hl
  obtain ⟨K, hK⟩ : ∃ K, s.size + 1 = K := ⟨_, rfl⟩
  have HK := Aside0.mk hK
  have hS : mkS s.data.toList = s := rfl
  have b0 : decide (65536 < (s.size : Int)) = false := decide_eq_false (by omega)
  have HS := Aside0.mk hS
  clear h hl hK hS
  go_enter Try.func13, Try.ntmps13
  go_wp2_with fail
  go_loopg [4, 5, 6] K (fun kq v4 v5 v6 wr => ∃ (ahead : Int) (out : List S39) (l : List UInt8) (g : Nat), v5 = .int .i64 ahead ∧ v6 = .pointer (some ⟨g, 0, none⟩) ∧ Aside0 (l.length < kq) ∧ Aside0 (kq ≤ K) ∧ Aside0 (decR kq ahead out l = (r1, r2)) ∧ Aside0 (Rst wr wr g l) ∧
    Aside0 (w.heap.size ≤ g) ∧ Aside0 (Kd.R k39 39 wr w.heap.size (fun _ => True) v4 out) ∧ Aside0 (Below w.heap.size w wr) ∧ Aside0 (out.length + l.length ≤ 65536))
  case atStart =>
    refine ⟨0, [], s.data.toList, w.heap.size, rfl, rfl, ⟨by rw [HL.out, ← HK.out]; omega⟩, ⟨Nat.le_refl _⟩, ⟨by rw [← HK.out]; exact H.out⟩, ⟨Rst.refl ?_⟩, ⟨Nat.le_refl _⟩, ⟨Kd.R_nil _ _ _ _ _⟩, ⟨(Below.refl _ _).alloc (Nat.le_refl _) _⟩, ⟨by rw [HL.out]; simpa using hs⟩⟩
    rw [HS.out]
    exact blk_new w _
  case round =>
    obtain ⟨ahead, out, l, g, rfl, rfl, HLK, HKK, HD, HR, HG, HO, HB, HX⟩ := hrel
    cases gk with
    | zero => exact absurd HLK.out (by omega)
    | succ k =>
      have hc := HR.out.cell
      have hf := HR.out.free
      cases l with
      | nil =>
        have b1 : (mkS []).toList.isEmpty = true := by rw [toList_mkS]; rfl
        have hD := HD.out
        rw [decR_nil] at hD
        injection hD with h1 h2
        subst h1 h2
        go_wp2_with fail
        go_ret2
        exact ⟨_, rfl, HO.out, HB.out⟩
      | cons c t =>
        have b1 := empty_mkS c t
        have hlt := fldR_rest c t
        have hD := HD.out
        rw [decR_cons] at hD
        have HC := field_any wr g (c :: t) HR.out
        generalize fldR (c :: t) = q at hlt hD HC
        obtain ⟨⟨⟨a0, a1, a2, a3⟩, ok⟩, rest⟩ := q
        simp only at hlt hD HC
        have HCC := Aside0.mk HC
        have HDD := Aside0.mk hD
        have HLT := Aside0.mk hlt
        clear HC hD hlt
        cases ok with
        | false =>
          have hD := HDD.out
          rw [if_pos (.inl rfl)] at hD
          injection hD with h1 h2
          subst h1 h2
          go_wp2_with (go_at_call 28; refine HCC.out.mono ?_; rintro e w1 ⟨rfl, HR1⟩)
          go_ret2
          exact ⟨_, rfl, Kd.R_nil _ _ _ _ _, (HB.out.trans (HR1.bel.mono HG.out)).alloc (by have := HB.out.size; have := HR1.keep.1; omega) _⟩
        | true =>
          by_cases ca : a0 < ahead
          · have hD := HDD.out
            rw [if_pos (.inr ca)] at hD
            injection hD with h1 h2
            subst h1 h2
            have d1 : decide (a0 < ahead) = true := decide_eq_true ca
            go_wp2_with (go_at_call 28; refine HCC.out.mono ?_; rintro e w1 ⟨rfl, HR1⟩)
            go_ret2
            exact ⟨_, rfl, Kd.R_nil _ _ _ _ _, (HB.out.trans (HR1.bel.mono HG.out)).alloc (by have := HB.out.size; have := HR1.keep.1; omega) _⟩
          · have hD := HDD.out
            rw [if_neg (by rintro (h | h); cases h; exact ca h)] at hD
            have HD' := Aside0.mk hD
            have d1 : decide (a0 < ahead) = false := decide_eq_false ca
            clear hD HDD
            go_wp2_with fail
            refine HCC.out.mono ?_
            rintro e w1 ⟨rfl, HR1⟩
            have hO := Kd.R_keep (Kd.R_types HO.out HR.out.blk (by decide)) HR1.keep (fun _ hk => hk.2)
            have hO1 := Kd.R_mono hO (ok' := fun _ => True) (fun _ _ => trivial)
            have hB1 := HB.out.trans (HR1.bel.mono HG.out)
            have HO1 := Aside0.mk hO1
            have HB1 := Aside0.mk hB1
            have HRR := Aside0.mk HR1
            clear hO hO1 hB1 HR1
            obtain ⟨y, hy⟩ : ∃ y, y = out ++ [(⟨a0, a1, a2, a3⟩ : S39)] := ⟨_, rfl⟩
            have HY := Aside0.mk hy
            clear hy
            go_wp2_with (first | ((with_reducible refine gate_builtin (b := .append) (xs := #[.tmp 29, .tmp 31]) rfl ?_); at_builtin; refine Kd.R_append k39 (w0 := w) w.heap.size rfl (.tmp 29) (.tmp 31) 22 39 (.agg #[(.int .i64 0), (.int .i64 0), (.int .i64 0), (.string ⟨#[]⟩)]) 40 rfl Try.underlying22 info39 rfl (by decide) (by omega) _ out (⟨a0, a1, a2, a3⟩ : S39) [.int .i64 a0, .int .i64 a1, .int .i64 a2, .string a3] (fun _ => True) (fun _ => False) rfl (by first | (go_simp; done) | (go_simp; rfl)) ?aP (fun _ hk => hk.elim) (fun _ _ => trivial) ?aO ?aB ?aS ?aL ?_; (case aP => exact k39_mkM _ _ _ (⟨a0, a1, a2, a3⟩ : S39)); (case aO => exact Kd.R_alloc HO1.out _); (case aB => exact HB1.out.alloc (by have := HB1.out.size; omega) _); (case aS => have := HB1.out.size; simp; omega); (case aL => have := HX.out; simp at this; omega); intro v1 w2 ho hb hg hat; have hblk := blk_grown (blk_alloc HRR.out.blk _) hg (Kd.R_ne HO1.out HRR.out.blk (by decide)); have hc2 : w2.cell? ⟨g, 0, none⟩ = some (.string (mkS rest)) := (blk_cell hblk 0).trans rfl; have HO2 := Aside0.mk ho; have HB2 := Aside0.mk hb; clear ho hb hg hat hblk))
            go_roundg k
            case measure => exact Nat.lt_succ_self _
            case rel =>
              refine ⟨a0, out ++ [⟨a0, a1, a2, a3⟩], rest, w2.heap.size, rfl, rfl, ⟨?_⟩, ⟨?_⟩, ⟨HD'.out⟩, ⟨Rst.refl (blk_new w2 _)⟩, ⟨HB2.out.size⟩, ⟨Kd.R_alloc HO2.out _⟩, ⟨HB2.out.alloc HB2.out.size _⟩, ⟨?_⟩⟩
              · have h1 := HLT.out; have h2 := HLK.out; simp at h2; omega
              · have h1 := HKK.out; omega
              · have h1 := HLT.out; have h2 := HX.out; simp at h2 ⊢; omega
theorem decode_no (s : ByteArray) (w : World) (hs : 65536 < s.size) :
    Calls Try.prog 13 #[.string s] w fun e w' => e = .returned (.tuple #[.slice none 0 0, .int .i64 5]) ∧ w' = w := by
  have b0 : decide (65536 < (s.size : Int)) = true := decide_eq_true (by omega)
  go_enter Try.func13, Try.ntmps13
  go_wp2_with fail
  go_ret2
  exact ⟨rfl, rfl⟩
theorem field_Decode.calls (a0 : ByteArray) (r1 : List S39) (r2 : Int) (w : World) (h : field_Decode.f a0 = some (r1, r2)) :
    Calls Try.prog 13 #[.string a0] w fun e w' => ∃ v0_ : Value, e = .returned (.tuple #[v0_, .int .i64 r2]) ∧ Kd.R k39 39 w' w.heap.size (fun _ => True) v0_ r1 ∧ Below w.heap.size w w' := by
  unfold field_Decode.f at h
  by_cases hs : a0.size > 65536
  · rw [if_pos hs] at h
    injection h with h
    injection h with h1 h2
    subst h1 h2
    exact (decode_no a0 w hs).mono fun e w' ⟨he, hw⟩ => ⟨_, he, hw ▸ Kd.R_nil _ _ _ _ _, hw ▸ Below.refl _ _⟩
  · rw [if_neg hs] at h
    exact decode_yes a0 r1 r2 w (by omega) (Option.some.inj h)
end Go.Proofs.Ytinibpncbhmchaa.Q
end
