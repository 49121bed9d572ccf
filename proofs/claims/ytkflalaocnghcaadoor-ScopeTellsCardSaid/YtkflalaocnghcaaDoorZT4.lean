/-
What is proved: aquifer/aquiferlaw06.ScopeTells answers true for every input, and leaves its arguments as they were.
-/
import Derived.Test.YtkflalaocnghcaaDoorZT3
import Derived.Test.YtkflalaocnghcaaDoorWZeros
import Derived.Shelf.Strings.BuilderK
import Derived.Test.YtkflalaocnghcaaDoorZT1
import Derived.Test.YtkflalaocnghcaaDoorRows
import Derived.Test.YtkflalaocnghcaaDoorCards
import Derived.Test.YtkflalaocnghcaaDoorTie
import Derived.WalkKit
import Derived.ProofKit
import Derived.OpenShut
import Derived.ShutString
import Derived.ChangeOld
import Derived.Below
import Derived.SizedLaws
import Derived.LaidLaws
import Derived.LaidMore
import Derived.Lay
import Derived.SevenTiedAt
import Derived.Stop.Joined
namespace Go.Proofs.YtkflalaocnghcaaDoor.Q
open Go Go.Proofs Go.Shelf Go.RowKit Go.Lib Go.Sort Go.Proofs.YtkflalaocnghcaaDoorP Go.Proofs.YtkflalaocnghcaaDoorK Go.Proofs.YtkflalaocnghcaaDoorW.PrintWords Go.Proofs.YtkflalaocnghcaaDoorW.PrintLast Go.Proofs.YtkflalaocnghcaaDoorW.PrintMore
set_option linter.unusedSimpArgs false
set_option linter.unusedVariables false
/-! ### slices.Concat at texts; scope.Union -/
set_option maxRecDepth 100000 in
theorem grow_nil (w : World) (n : Nat) (hn : n ≤ 3145728) :
    Calls Tryd.prog 54 #[.slice none 0 0, .int .i64 (n : Int)] w fun e w' => ∃ v : Value, e = .returned v ∧ Kd.R Kd.string 9 w' w.heap.size (fun _ => True) v [] ∧ Below w.heap.size w w' := by
  have HB0 := Aside0.mk (Below.refl w.heap.size w)
  by_cases h0 : n = 0
  · subst h0
    go_enter Tryd.func54, Tryd.ntmps54
    go_wp2_with fail
    go_ret
    exact ⟨_, rfl, Kd.R_nil _ _ _ _ _, HB0.out⟩
  · go_enter Tryd.func54, Tryd.ntmps54
    go_wp2_with ((with_reducible refine gate_builtin (b := .append) (xs := #[.tmp 20, .tmp 21]) rfl ?_); go_loud (at_builtin; refine Kd.R_append_zeros Kd.string (w0 := w) w.heap.size rfl (.tmp 20) (.tmp 21) 22 3 9 (.string ⟨#[]⟩) 16 rfl Tryd.underlying22 Tryd.underlying3 info9 rfl (by decide) (by decide) (.slice none 0 0) [] (⟨#[]⟩ : ByteArray) (kx := .i64) (n : Int) (fun _ => True) rfl rfl ?hz (fun _ _ => trivial) (Kd.R_nil _ _ _ _ _) (by omega) HB0.out (Nat.le_refl _) (by simp; omega) ?_; (case hz => rfl); intro v1 w1 h1 hb1 hg1 hat1; obtain ⟨ad, c, rfl⟩ := Kd.R_slice1 h1 (by simp; omega); have H1 := Aside0.mk h1; have HB1 := Aside0.mk hb1; clear h1 hb1 hg1 hat1))
    go_ret
    exact ⟨_, rfl, by have := Kd.R_take H1.out (Nat.zero_le _); simpa using this, HB1.out⟩
theorem flat_take (ls : List (List ByteArray)) (k : Nat) (h : k < ls.length) : (ls.take (k + 1)).flatten = (ls.take k).flatten ++ ls[k] := by
  rw [List.take_succ_eq_append_getElem h, List.flatten_append]
  simp
theorem flat_le (ls : List (List ByteArray)) (k : Nat) : (ls.take k).flatten.length ≤ ls.flatten.length := by
  conv => rhs; rw [← List.take_append_drop k ls, List.flatten_append, List.length_append]
  omega
set_option maxRecDepth 100000 in
theorem concat_any (w : World) (b c : Nat) (ls : List (List ByteArray)) (hl : ls.flatten.length ≤ 3145728) (hll : ls.length ≤ 1048576)
    (hc : ∀ j (h : j < ls.length), ∃ A' c', w.cell? ⟨b, j, none⟩ = some (.slice A' ls[j].length c') ∧ Kd.C Kd.string w A' ls[j].length ls[j]) :
    Calls Tryd.prog 39 #[.slice (some ⟨b, 0, none⟩) ls.length c] w fun e w' => ∃ v : Value, e = .returned v ∧ Kd.R Kd.string 9 w' w.heap.size (fun _ => True) v ls.flatten ∧ Below w.heap.size w w' := by
  have HC := Aside0.mk hc
  clear hc
  have HB0 := Aside0.mk (Below.refl w.heap.size w)
  have hG := fun W n hn => grow_nil W n hn
  have HG := Aside0.mk hG
  clear hG
  go_enter Tryd.func39, Tryd.ntmps39
  go_wp2_with fail
  go_loopw [3, 11] (fun s i wr => ∃ j : Nat, j ≤ ls.length ∧ i = .int .i64 (j : Int) ∧ s = .int .i64 (((ls.take j).flatten.length : Nat) : Int) ∧ wr = w) (fun s i _ => ls.length - (intOf i).toNat)
  case atStart => exact ⟨0, Nat.zero_le _, rfl, rfl, rfl⟩
  case round =>
    obtain ⟨j, hj, rfl, rfl, hw⟩ := hrel
    obtain rfl : w = wr := hw.symm
    by_cases hlt : j < ls.length
    · obtain ⟨A', c', x0, hr⟩ := HC.out j hlt
      have h1 := flat_take ls j hlt
      have h2 := flat_le ls (j + 1)
      rw [h1, List.length_append] at h2
      have H1 := Aside0.mk h1
      clear h1
      generalize hq : (ls.take j).flatten.length = q at h2
      have h3 : ((ls.take (j + 1)).flatten.length : Nat) = q + ls[j].length := by rw [H1.out, List.length_append, hq]
      have H3 := Aside0.mk h3
      clear h3 hq H1
      generalize ls[j].length = m at x0 h2 H3
      go_wp2_with fail
      go_roundw
      case rel => exact ⟨j + 1, by omega, by go_num, by rw [H3.out]; go_num, trivial⟩
      case measure => simp [intOf]; omega
    · obtain rfl : j = ls.length := by omega
      have h2 := flat_le ls ls.length
      generalize hq : (ls.take ls.length).flatten.length = q at h2
      clear hq
      go_wp2_with fail
      refine (HG.out _ q (by omega)).mono ?_
      rintro e w2 ⟨v, rfl, hv, hb⟩
      have HV := Aside0.mk hv
      have HB := Aside0.mk hb
      clear hv hb
      go_wp2_with fail
      go_loopw [6, 27] (fun u i w3 => ∃ j : Nat, j ≤ ls.length ∧ i = .int .i64 (j : Int) ∧ Aside0 (Kd.R Kd.string 9 w3 w.heap.size (fun _ => True) u (ls.take j).flatten) ∧ Aside0 (Below w.heap.size w w3)) (fun u i _ => ls.length - (intOf i).toNat)
      case atStart => exact ⟨0, Nat.zero_le _, rfl, HV, HB⟩
      case round =>
        obtain ⟨j, hj, rfl, HU, HB3⟩ := hrel
        by_cases hlt : j < ls.length
        · obtain ⟨A', c', x0, hr⟩ := HC.out j hlt
          replace x0 := (HB3.out.cell (World.block_lt_of_cell? w _ x0)).trans x0
          have hr := Kd.C_below hr HB3.out
          have h1 := flat_take ls j hlt
          have h2 := flat_le ls (j + 1)
          rw [h1, List.length_append] at h2
          have H1 := Aside0.mk h1
          clear h1
          have HR := Aside0.mk hr
          clear hr
          generalize ls[j] = y at x0 h2 H1 HR
          generalize (ls.take j).flatten = xs at HU h2 H1
          obtain ⟨A3, c3, rfl⟩ := Kd.R_slice HU.out
          go_wp2_with ((with_reducible refine gate_builtin (b := .append) (xs := #[.tmp 31, .tmp 32]) rfl ?_); at_builtin; refine Kd.R_append_rows Kd.string (w0 := w) w.heap.size rfl (.tmp 31) (.tmp 32) 22 9 (.string ⟨#[]⟩) 16 rfl Tryd.underlying22 info9 rfl (by decide) (by decide) _ _ y _ _ _ (fun _ => True) (fun _ => False) rfl rfl HU.out HR.out (fun x cs h => h) (fun _ h => h.elim) (fun _ _ => trivial) HB3.out (by have := HB3.out.size; omega) (by omega) ?_; intro v1 w4 h4 hb4 hg4 hat4; obtain ⟨A4, c4, rfl⟩ := Kd.R_slice h4; have H4 := Aside0.mk h4; have HB4 := Aside0.mk hb4; clear h4 hb4 hg4 hat4)
          go_roundw
          case rel => exact ⟨j + 1, by omega, by go_num, ⟨by rw [H1.out]; have h4 := H4.out; rw [List.length_append] at h4; exact h4⟩, HB4⟩
          case measure => simp [intOf]; omega
        · obtain rfl : j = ls.length := by omega
          have hu := HU.out
          rw [List.take_length] at hu
          have HU' := Aside0.mk hu
          clear hu HU
          go_wp2_with fail
          go_ret
          exact ⟨_, rfl, HU'.out, HB3.out⟩
theorem May_any (w : World) (A : Option Addr) (c : Nat) (l : List ByteArray) (hC : Kd.C Kd.string w A l.length l) (hc : l.length ≤ c) (hs : shortP l = true) :
    Calls Tryd.prog 13 #[.slice A l.length c] w fun e w' => e = .returned (.bool (mayS l)) ∧ Below w.heap.size w w' :=
  scope_May.calls (l.length + 1) A c l (mayS l) w hC hc (may_fn hs _ (Nat.lt_succ_self _))
theorem Make_any (w : World) (A : Option Addr) (c : Nat) (l : List ByteArray) (hC : Kd.C Kd.string w A l.length l) (hc : l.length ≤ c) (hs : shortP l = true) :
    Calls Tryd.prog 10 #[.slice A l.length c] w fun e w' => ∃ v, e = .returned (.tuple #[v, .int .i64 (makeS l).2]) ∧ SR Kd.string 9 w' w.heap.size (fun _ => True) v (makeS l).1 ∧ Below w.heap.size w w' :=
  scope_Make.calls (l.length + 1) A c l (makeS l).1 (makeS l).2 w hC hc (make_fn hs _ (Nat.lt_succ_self _))
def unionS (a b : List ByteArray) : List ByteArray × Int := if mayS a = true ∧ mayS b = true then makeS (a ++ b) else ([], 2)
set_option maxRecDepth 100000 in
set_option maxHeartbeats 2000000 in
theorem Union_any (w : World) (A : Option Addr) (c : Nat) (a : List ByteArray) (B : Option Addr) (d : Nat) (b : List ByteArray) (hC : Kd.C Kd.string w A a.length a) (hc : a.length ≤ c) (ha : shortP a = true) (hD : Kd.C Kd.string w B b.length b) (hd : b.length ≤ d) (hb : shortP b = true) :
    Calls Tryd.prog 20 #[.slice A a.length c, .slice B b.length d] w fun e w' => ∃ v, e = .returned (.tuple #[v, .int .i64 (unionS a b).2]) ∧ SR Kd.string 9 w' w.heap.size (fun _ => True) v (unionS a b).1 ∧ Below w.heap.size w w' := by
  have HA := Aside0.mk (May_any w A c a hC hc ha)
  have HBM := Aside0.mk (fun W (hw : Below w.heap.size w W) => May_any W B d b (Kd.C_below hD hw) hd hb)
  have HC := Aside0.mk hC
  have HD := Aside0.mk hD
  have HSA := Aside0.mk ha
  have HSB := Aside0.mk hb
  unfold unionS
  cases h1 : mayS a with
  | false =>
    rw [if_neg (fun h => absurd h.1 (by decide))]
    have HA := HA.out
    rw [h1] at HA
    have HA := Aside0.mk HA
    clear h1 hC hD ha hb
    go_enter Tryd.func20, Tryd.ntmps20
    go_wp2_with fail
    refine HA.out.mono ?_
    rintro e w1 ⟨rfl, hb1⟩
    go_wp2_with fail
    go_ret2
    exact ⟨_, rfl, SR_nil _ _ _ _ _, hb1⟩
  | true =>
    cases h2 : mayS b with
    | false =>
      rw [if_neg (fun h => absurd h.2 (by decide))]
      have HA := HA.out
      rw [h1] at HA
      have HA := Aside0.mk HA
      have HBM := HBM.out
      rw [h2] at HBM
      have HBM := Aside0.mk HBM
      clear h1 h2 hC hD ha hb
      go_enter Tryd.func20, Tryd.ntmps20
      go_wp2_with fail
      refine HA.out.mono ?_
      rintro e w1 ⟨rfl, hb1⟩
      have p1 := prev_call hb1
      go_wp2_with fail
      refine (HBM.out _ (bel _ _)).mono ?_
      rintro e w2 ⟨rfl, hb2⟩
      have p2 := prev_call hb2
      go_wp2_with fail
      go_ret2
      exact ⟨_, rfl, SR_nil _ _ _ _ _, bel _ _⟩
    | true =>
      rw [if_pos ⟨rfl, rfl⟩]
      have la := may_len h1
      have lb := may_len h2
      have HA := HA.out
      rw [h1] at HA
      have HA := Aside0.mk HA
      have HBM := HBM.out
      rw [h2] at HBM
      have HBM := Aside0.mk HBM
      have hsab := shortP_app ha hb (by omega)
      obtain ⟨ab, hab⟩ : ∃ ab, a ++ b = ab := ⟨_, rfl⟩
      rw [hab] at hsab ⊢
      have HAB := Aside0.mk hab
      clear hab
      have HSAB := Aside0.mk hsab
      obtain ⟨R, hR⟩ : ∃ R, makeS ab = R := ⟨_, rfl⟩
      rw [hR]
      have HR := Aside0.mk hR
      have HLA := Aside0.mk la
      have HLB := Aside0.mk lb
      clear h1 h2 hC hD ha hb hsab hR
      go_enter Tryd.func20, Tryd.ntmps20
      go_wp2_with fail
      refine HA.out.mono ?_
      rintro e w1 ⟨rfl, hb1⟩
      have p1 := prev_call hb1
      go_wp2_with fail
      refine (HBM.out _ (bel _ _)).mono ?_
      rintro e w2 ⟨rfl, hb2⟩
      have p2 := prev_call hb2
      go_wp2_with fail
      refine (concat_any (w2.alloc (.cells #[.slice A a.length c, .slice B b.length d] 22)) w2.heap.size 2 [a, b] (by simp; omega) (by simp) (fun j hj => ?_)).mono ?_
      · rcases j with _ | _ | j
        · exact ⟨A, c, cell_held.trans rfl, Kd.C_below HC.out (bel _ _)⟩
        · exact ⟨B, d, cell_held.trans rfl, Kd.C_below HD.out (bel _ _)⟩
        · exact absurd hj (by simp)
      rintro e w3 ⟨v, rfl, hv, hb3⟩
      have p3 := prev_call hb3
      rw [show [a, b].flatten = ab by simp [HAB.out]] at hv
      obtain ⟨A3, c3, rfl, h3, hC3⟩ := Kd.R_reads hv
      have HC3 := Aside0.mk hC3
      have HL3 := Aside0.mk h3
      clear hC3 hv h3
      go_wp2_with fail
      refine (Make_any w3 A3 c3 ab HC3.out HL3.out HSAB.out).mono ?_
      rintro e w4 ⟨v, rfl, hv, hb4⟩
      rw [HR.out] at hv ⊢
      have p4 := prev_call hb4
      have HV := Aside0.mk (S_lower hv (siz w w3))
      clear hv
      go_wp2_with fail
      go_ret2
      exact ⟨_, rfl, HV.out, bel _ _⟩
def scope_Union.f (a b : List ByteArray) : Option (List ByteArray × Int) := if shortP a = true ∧ shortP b = true then some (unionS a b) else none
theorem scope_Union.calls (A0 : Option Addr) (c0 : Nat) (l0 : List ByteArray) (A1 : Option Addr) (c1 : Nat) (l1 : List ByteArray) (r1 : List ByteArray) (r2 : Int) (w : World) (hr0 : Kd.C Kd.string w A0 l0.length l0) (hc0 : l0.length ≤ c0) (hr1 : Kd.C Kd.string w A1 l1.length l1) (hc1 : l1.length ≤ c1) (h : scope_Union.f l0 l1 = some (r1, r2)) :
    Calls Tryd.prog 20 #[.slice A0 l0.length c0, .slice A1 l1.length c1] w fun e w' => ∃ v0_ : Value, e = .returned (.tuple #[v0_, .int .i64 r2]) ∧ SR Kd.string 9 w' w.heap.size (fun _ => True) v0_ r1 ∧ Below w.heap.size w w' := by
  unfold scope_Union.f at h
  split at h
  · rename_i hs
    injection h with h
    have k := Union_any w A0 c0 l0 A1 c1 l1 hr0 hc0 hs.1 hr1 hc1 hs.2
    rw [h] at k
    exact k
  · simp at h
end Go.Proofs.YtkflalaocnghcaaDoor.Q

namespace Go.Proofs.YtkflalaocnghcaaDoor.Q
open Go Go.Proofs Go.Shelf Go.RowKit Go.Lib Go.Sort Go.Proofs.YtkflalaocnghcaaDoorP Go.Proofs.YtkflalaocnghcaaDoorK Go.Proofs.YtkflalaocnghcaaDoorW.PrintWords Go.Proofs.YtkflalaocnghcaaDoorW.PrintLast Go.Proofs.YtkflalaocnghcaaDoorW.PrintMore
set_option linter.unusedSimpArgs false
set_option linter.unusedVariables false
/-! ### scope.Text, scope.Parse -/
def textL (l : List ByteArray) : List UInt8 := (l.map fun p => p.data.toList ++ [10]).flatten
def textS (l : List ByteArray) : ByteArray × Int := if mayS l = true then (⟨(textL l).toArray⟩, 0) else (⟨#[]⟩, 2)
theorem textL_len (l : List ByteArray) (h : ∀ p ∈ l, p.size ≤ 65536) : (textL l).length ≤ l.length * 65537 := by
  induction l with
  | nil => simp [textL]
  | cons p l ih =>
    unfold textL at ih ⊢
    have h1 := ih (fun q hq => h q (List.mem_cons_of_mem _ hq))
    have h2 := h p List.mem_cons_self
    have h3 : p.data.toList.length = p.size := by simp
    simp only [List.map_cons, List.flatten_cons, List.length_append, List.length_cons, List.length_nil]
    omega
theorem textL_take (l : List ByteArray) (k : Nat) (h : k < l.length) : textL (l.take (k + 1)) = textL (l.take k) ++ (l[k].data.toList ++ [10]) := by
  unfold textL
  rw [List.take_succ_eq_append_getElem h, List.map_append, List.flatten_append]
  simp
theorem ws_c (b : Nat) (l : List UInt8) (s : ByteArray) (W : World) (h : Lib.IsBuilderF 55 5 b b (Lib.byteCells l) W) (hlen : l.length + s.size ≤ 140737488355328) (hb : b ≤ W.heap.size) :
    Calls Tryd.prog 40 #[.pointer (some ⟨b, 0, none⟩), .string s] W fun e w' => e = .returned (.tuple #[.int .i64 s.size, .nilIface]) ∧ Lib.IsBuilderF 55 5 b b (Lib.byteCells (l ++ s.data.toList)) w' ∧ Below b W w' := by
  refine Calls.mono (Any.Builder_WriteString_k layWriteString layWriteStringX b b (Lib.byteCells l) s W h (by rw [Lib.byteCells_length]; exact hlen) hb) ?_
  rintro e w' ⟨he, h1, h2, _⟩
  refine ⟨he, ?_, h2⟩
  have e1 : Lib.byteCells (l ++ s.data.toList) = Lib.byteCells l ++ Lib.strCells s := by rw [Lib.byteCells_append]; rfl
  rw [e1]
  exact .inr h1
theorem bs_c (b : Nat) (l : List UInt8) (W : World) (h : Lib.IsBuilderF 55 5 b b (Lib.byteCells l) W) (hb : b ≤ W.heap.size) :
    Calls Tryd.prog 41 #[.pointer (some ⟨b, 0, none⟩)] W fun e w' => e = .returned (.string ⟨l.toArray⟩) ∧ Below b W w' := by
  refine Calls.mono (Any.Builder_String_any_k layBString layBStringX b b l W h hb) ?_
  rintro e w' ⟨he, _, h2, _⟩
  exact ⟨he, h2⟩
set_option maxRecDepth 100000 in
set_option maxHeartbeats 2000000 in
theorem Text_any (w : World) (A : Option Addr) (c : Nat) (l : List ByteArray) (hC : Kd.C Kd.string w A l.length l) (hc : l.length ≤ c) (hs : shortP l = true) :
    Calls Tryd.prog 24 #[.slice A l.length c] w fun e w' => e = .returned (.tuple #[.string (textS l).1, .int .i64 (textS l).2]) ∧ Below w.heap.size w w' := by
  have HM := Aside0.mk (May_any w A c l hC hc hs)
  have HC := Aside0.mk hC
  have HSM := Aside0.mk (shortP_mem hs).2
  unfold textS
  cases h1 : mayS l with
  | false =>
    rw [if_neg (by decide)]
    have HM := HM.out
    rw [h1] at HM
    have HM := Aside0.mk HM
    clear h1 hC hs
    go_enter Tryd.func24, Tryd.ntmps24
    go_wp2_with fail
    refine HM.out.mono ?_
    rintro e w1 ⟨rfl, hb1⟩
    go_wp2_with fail
    go_ret2
    exact ⟨rfl, hb1⟩
  | true =>
    rw [if_pos rfl]
    have HM := HM.out
    rw [h1] at HM
    have HM := Aside0.mk HM
    have hll := may_len h1
    have htl := textL_len l HSM.out
    have HTL := Aside0.mk (show (textL l).length ≤ 1048592 by omega)
    clear h1 hC hs htl
    go_enter Tryd.func24, Tryd.ntmps24
    go_wp2_with fail
    refine HM.out.mono ?_
    rintro e w1 ⟨rfl, hb1⟩
    have HB1 := Aside0.mk hb1
    clear hb1
    go_wp2_with fail
    have hfresh : Aside0 (Lib.IsBuilderF 55 5 w1.heap.size w1.heap.size (Lib.byteCells (textL (l.take 0))) (w1.alloc (.cells #[.pointer none, .slice none 0 0] 55))) := ⟨Lib.IsBuilderF.of (Lib.fresh_isBuilder 55 5 w1)⟩
    have HB2 : Aside0 (Below w1.heap.size w1 (w1.alloc (.cells #[.pointer none, .slice none 0 0] 55))) := ⟨bel _ _⟩
    go_loopw [12] (fun i wr => ∃ k : Nat, k ≤ l.length ∧ i = .int .i64 (k : Int) ∧ Aside0 (Lib.IsBuilderF 55 5 w1.heap.size w1.heap.size (Lib.byteCells (textL (l.take k))) wr) ∧ Aside0 (Below w1.heap.size w1 wr)) (fun i _ => l.length - (intOf i).toNat)
    case atStart => exact ⟨0, Nat.zero_le _, rfl, hfresh, HB2⟩
    case round =>
      clear hfresh HB2
      obtain ⟨k, hk, rfl, HBD, HB⟩ := hrel
      by_cases hlt : k < l.length
      · obtain ⟨ad, e, x0⟩ := C_str HC.out k hlt
        subst e
        replace x0 := (HB1.out.cell (World.block_lt_of_cell? w _ x0)).trans x0
        replace x0 := (HB.out.cell (World.block_lt_of_cell? w1 _ x0)).trans x0
        have htk := textL_take l k hlt
        have hpk := HSM.out _ (List.getElem_mem hlt)
        have htlk : (textL (l.take (k + 1))).length ≤ 1048592 := by
          have h2 := textL_len (l.take (k + 1)) (fun p hp => HSM.out p (List.mem_of_mem_take hp))
          have h3 := List.length_take_le (k + 1) l
          have h4 : (l.take (k + 1)).length ≤ 16 := by rw [List.length_take]; omega
          omega
        generalize l[k] = p at x0 htk hpk
        rw [htk, List.length_append] at htlk
        have HTK := Aside0.mk htk
        have HTL2 := Aside0.mk htlk
        have hpm : p.size + 1 ≤ maxLen := by unfold maxLen; omega
        clear htk htlk
        have hsz1 := HB.out.size
        go_wp2_with fail
        have hsz3 : (textL (l.take k)).length + (p ++ (⟨#[10]⟩ : ByteArray)).size ≤ 140737488355328 := by
          have := HTL2.out
          have h1 : (⟨#[10]⟩ : ByteArray).size = 1 := rfl
          simp at this ⊢
          omega
        refine (ws_c w1.heap.size (textL (l.take k)) (p ++ (⟨#[10]⟩ : ByteArray)) wr HBD.out hsz3 hsz1).mono ?_
        rintro e w3 ⟨rfl, hBD, hb3⟩
        have HB3 := Aside0.mk (HB.out.trans hb3)
        have HBD3 : Aside0 (Lib.IsBuilderF 55 5 w1.heap.size w1.heap.size (Lib.byteCells (textL (l.take (k + 1)))) w3) := ⟨by
          rw [HTK.out]
          simpa using hBD⟩
        clear hBD hb3
        go_wp2_with fail
        go_roundw
        case rel => exact ⟨k + 1, by omega, by go_num, HBD3, HB3⟩
        case measure => simp [intOf]; omega
      · have hsz1 := HB.out.size
        have hbd := HBD.out
        rw [List.take_of_length_le (by omega)] at hbd
        have HBD := Aside0.mk hbd
        clear hbd
        go_wp2_with fail
        refine (bs_c w1.heap.size _ _ HBD.out hsz1).mono ?_
        rintro e w3 ⟨rfl, hb3⟩
        go_wp2_with fail
        go_ret2
        exact ⟨rfl, HB1.out.trans ((HB.out.trans hb3).mono HB1.out.size)⟩
def linesB (t : ByteArray) : List ByteArray := (sepC 10 t.data.toList).map fun x => ⟨x.toArray⟩
theorem split10_c (W : World) (s : ByteArray) (hs : s.size < 4294967281) : Calls Tryd.prog 42 #[.string s, .string ⟨#[10]⟩] W fun e w' => e = .returned (.slice (some ⟨W.heap.size, 0, none⟩) (linesB s).length (linesB s).length) ∧ w' = W.alloc (.cells ((linesB s).map Value.string).toArray 9) := by
  have h := split_one laySplit (by kernel_rfl) s 10 W hs
  have hl := Lib.splitB_all ⟨#[10]⟩ (Nat.le_refl 1) 0 _ s rfl
  have hn : (Lib.splitB ⟨#[10]⟩ 0 (Lib.countB s ⟨#[10]⟩) s).map (·.data.toList) = sepC 10 s.data.toList := by
    rw [Lib.splitB_data]
    exact split_sepC 10 s.data.toList
  have hb : Lib.splitB ⟨#[10]⟩ 0 (Lib.countB s ⟨#[10]⟩) s = linesB s := by
    unfold linesB
    rw [← hn, List.map_map]
    have : ((fun x : List UInt8 => (⟨x.toArray⟩ : ByteArray)) ∘ fun x : ByteArray => x.data.toList) = id := by funext x; simp
    rw [this, List.map_id]
  refine Calls.mono h ?_
  rintro e w' ⟨rfl, rfl⟩
  rw [hb] at hl ⊢
  exact ⟨by rw [hl], rfl⟩
def parseS (t : ByteArray) : List ByteArray × Int := if t.size = 0 then ([], 0) else if (linesB t).getLast? = some ⟨#[]⟩ ∧ mayS (linesB t).dropLast = true then ((linesB t).dropLast, 0) else ([], 5)
theorem linesB_size (t : ByteArray) : ∀ p ∈ linesB t, p.size ≤ t.size := by
  intro p hp
  unfold linesB at hp
  obtain ⟨x, hx, rfl⟩ := List.mem_map.1 hp
  have h1 := sepC_size 10 _ x hx
  have h2 : t.data.toList.length = t.size := by simp
  rw [bsize]
  omega
theorem linesB_len (t : ByteArray) : 0 < (linesB t).length ∧ (linesB t).length ≤ t.size + 1 := by
  unfold linesB
  rw [List.length_map]
  have h1 := sepC_len 10 t.data.toList
  have h2 : t.data.toList.length = t.size := by simp
  exact ⟨List.length_pos_iff.2 (sepC_ne 10 _), by omega⟩
attribute [local go_sem] cell_held frozen_held
theorem C_row (W : World) (l : List ByteArray) (m : Nat) (hm : m ≤ l.length) (hl : l.length ≤ 1048576) : Kd.C Kd.string (W.alloc (.cells (l.map Value.string).toArray 9)) (some ⟨W.heap.size, 0, none⟩) (l.take m).length (l.take m) := by
  have hg : (W.alloc (.cells (l.map Value.string).toArray 9)).heap[W.heap.size]? = some (.cells (l.map Value.string).toArray 9 (0, 0)) := World.alloc_heap_new W _
  refine ⟨rfl, by rw [List.length_take]; omega, fun _ => ⟨_, rfl, fun j p hj => ⟨[.string p], rfl, rfl, fun i u hi => ?_⟩⟩⟩
  cases i with
  | zero =>
    simp at hi
    subst hi
    rw [Addr.add_lit, blk_cell hg]
    rw [List.getElem?_take] at hj
    split at hj
    · show (l.map Value.string).toArray[0 + (j * 1 + 0)]? = _
      simp [hj]
    · cases hj
  | succ i => simp at hi
set_option maxRecDepth 100000 in
set_option maxHeartbeats 2000000 in
theorem Parse_any (w : World) (t : ByteArray) (ht : t.size ≤ 65536) :
    Calls Tryd.prog 26 #[.string t] w fun e w' => ∃ v, e = .returned (.tuple #[v, .int .i64 (parseS t).2]) ∧ SR Kd.string 9 w' w.heap.size (fun _ => True) v (parseS t).1 ∧ Below w.heap.size w w' := by
  obtain ⟨R, hR⟩ : ∃ R, parseS t = R := ⟨_, rfl⟩
  rw [hR]
  unfold parseS at hR
  by_cases h0 : t.size = 0
  · rw [if_pos h0] at hR
    subst hR
    have hz := (size_zero_list t).2 h0
    have hz1 : (t.toList == []) = true := by rw [hz]; rfl
    clear h0 hz
    go_enter Tryd.func26, Tryd.ntmps26
    go_wp2_with fail
    go_ret2
    exact ⟨_, rfl, SR_nil _ _ _ _ _, bel _ _⟩
  · rw [if_neg h0] at hR
    have hz1 : (t.toList == []) = false := beq_eq_false_iff_ne.mpr (fun e => h0 ((size_zero_list t).1 e))
    have hsp := fun W => split10_c W t (by omega)
    have hls := linesB_size t
    have hln := linesB_len t
    generalize linesB t = l at hR hsp hls hln
    rw [List.dropLast_eq_take, List.getLast?_eq_getElem?] at hR
    obtain ⟨m, hm⟩ : ∃ m, l.length - 1 = m := ⟨_, rfl⟩
    have hlen : l.length = m + 1 := by omega
    rw [hm] at hR
    obtain ⟨q, hq⟩ : ∃ q, l[m]? = some q := ⟨l[m]'(by omega), List.getElem?_eq_getElem (by omega)⟩
    rw [hq] at hR
    have hsh : shortP (l.take m) = true := shortP_mk (by rw [List.length_take]; omega) (fun p hp => by have := hls p (List.mem_of_mem_take hp); omega)
    have htl : (l.take m).length = m := by rw [List.length_take]; omega
    have hmy := fun W A c hC hc => May_any W A c (l.take m) hC hc hsh
    have hcr := fun W => C_row W l m (by omega) (by omega)
    rw [htl] at hmy hcr
    rw [hlen] at hsp
    have x0 : (l.map Value.string).toArray[m]? = some (.string q) := by simp [hq]
    have hmb : m ≤ 65536 := by omega
    have hrow : ∀ (j : Nat) (p : ByteArray), (l.take m)[j]? = some p → (l.map Value.string).toArray[j]? = some (Value.string p) := by
      intro j p hj
      rw [List.getElem?_take] at hj
      split at hj
      · simp [hj]
      · cases hj
    generalize (l.map Value.string).toArray = cells at x0 hsp hcr hrow
    generalize l.take m = lm at hR hmy hcr hrow htl hsh
    have HSP := Aside0.mk hsp
    have HMY := Aside0.mk hmy
    have HCR := Aside0.mk hcr
    have HROW := Aside0.mk hrow
    have HTL := Aside0.mk htl
    clear hsp hls hln hm hlen hq hmy hcr hrow htl hsh h0
    by_cases hq0 : q = ⟨#[]⟩
    · subst hq0
      cases hmay : mayS lm with
      | true =>
        rw [if_pos ⟨rfl, hmay⟩] at hR
        subst hR
        have HMY := HMY.out
        rw [hmay] at HMY
        have HMY := Aside0.mk HMY
        clear hmay
        go_enter Tryd.func26, Tryd.ntmps26
        go_wp2_with fail
        refine (HSP.out _).mono ?_
        rintro e w1 ⟨rfl, rfl⟩
        go_wp2_with fail
        refine (HMY.out _ _ _ (HCR.out _) (by omega)).mono ?_
        rintro e w2 ⟨rfl, hb2⟩
        have p2 := prev_call hb2
        have hg2 : w2.heap[w.heap.size]? = some (.cells cells 9 (0, 0)) := held
        have HG2 := Aside0.mk hg2
        clear hg2
        go_wp2_with fail
        go_ret2
        exact ⟨_, rfl, sr_mk (Nat.le_refl _) HG2.out HTL.out.symm (Nat.le_refl _) (by rw [HTL.out]; omega) HROW.out, bel _ _⟩
      | false =>
        rw [if_neg (by rw [hmay]; simp)] at hR
        subst hR
        have HMY := HMY.out
        rw [hmay] at HMY
        have HMY := Aside0.mk HMY
        clear hmay
        go_enter Tryd.func26, Tryd.ntmps26
        go_wp2_with fail
        refine (HSP.out _).mono ?_
        rintro e w1 ⟨rfl, rfl⟩
        go_wp2_with fail
        refine (HMY.out _ _ _ (HCR.out _) (by omega)).mono ?_
        rintro e w2 ⟨rfl, hb2⟩
        have p2 := prev_call hb2
        go_wp2_with fail
        go_ret2
        exact ⟨_, rfl, SR_nil _ _ _ _ _, bel _ _⟩
    · rw [if_neg (fun h => hq0 (Option.some.inj h.1))] at hR
      subst hR
      have hq1 : (q.toList == []) = false := beq_eq_false_iff_ne.mpr (fun e => hq0 ((tlB q ⟨#[]⟩).1 (by rw [e, ByteArray.toList_eq])))
      have hq2 : (q.toList != []) = true := bne_iff_ne.mpr (fun e => hq0 ((tlB q ⟨#[]⟩).1 (by rw [e, ByteArray.toList_eq])))
      clear hq0
      go_enter Tryd.func26, Tryd.ntmps26
      go_wp2_with fail
      refine (HSP.out _).mono ?_
      rintro e w1 ⟨rfl, rfl⟩
      go_wp2_with fail
      go_ret2
      exact ⟨_, rfl, SR_nil _ _ _ _ _, bel _ _⟩
def scope_Text.f (l : List ByteArray) : Option (ByteArray × Int) := if shortP l = true then some (textS l) else none
theorem scope_Text.calls (A0 : Option Addr) (c0 : Nat) (l0 : List ByteArray) (r1 : ByteArray) (r2 : Int) (w : World) (hr0 : Kd.C Kd.string w A0 l0.length l0) (hc0 : l0.length ≤ c0) (h : scope_Text.f l0 = some (r1, r2)) :
    Calls Tryd.prog 24 #[.slice A0 l0.length c0] w fun e w' => e = .returned (.tuple #[.string r1, .int .i64 r2]) ∧ Below w.heap.size w w' := by
  unfold scope_Text.f at h
  split at h
  · rename_i hs
    injection h with h
    have k := Text_any w A0 c0 l0 hr0 hc0 hs
    rw [h] at k
    exact k
  · simp at h
def scope_Parse.f (t : ByteArray) : Option (List ByteArray × Int) := if t.size ≤ 65536 then some (parseS t) else none
theorem scope_Parse.calls (a0 : ByteArray) (r1 : List ByteArray) (r2 : Int) (w : World) (h : scope_Parse.f a0 = some (r1, r2)) :
    Calls Tryd.prog 26 #[.string a0] w fun e w' => ∃ v0_ : Value, e = .returned (.tuple #[v0_, .int .i64 r2]) ∧ SR Kd.string 9 w' w.heap.size (fun _ => True) v0_ r1 ∧ Below w.heap.size w w' := by
  unfold scope_Parse.f at h
  split at h
  · rename_i hs
    injection h with h
    have k := Parse_any w a0 hs
    rw [h] at k
    exact k
  · simp at h
end Go.Proofs.YtkflalaocnghcaaDoor.Q

namespace Go.Proofs.YtkflalaocnghcaaDoor.Q
open Go Go.Proofs Go.Shelf Go.RowKit Go.Lib Go.Sort Go.Proofs.YtkflalaocnghcaaDoorP Go.Proofs.YtkflalaocnghcaaDoorK Go.Proofs.YtkflalaocnghcaaDoorW.PrintWords Go.Proofs.YtkflalaocnghcaaDoorW.PrintLast Go.Proofs.YtkflalaocnghcaaDoorW.PrintMore
set_option linter.unusedSimpArgs false
set_option linter.unusedVariables false
/-! ### The document's Make, May; the law's own words -/
theorem make_ref_loop (l : List ByteArray) (hs : shortP l = true) (hln : l.length ≤ 2000) (d : Nat) : ∀ (i k : Nat), i + d = l.length → (∀ x ∈ l.take i, isD x) → (l.length + 3) * (l.length + 1) + 5000 + d < k → aquiferref06_Make.l0 k l (i : Int) = some (match (l.drop i).find? (fun p => dirS p != 0) with
  | some p => ([], dirS p)
  | none => if 16 < (reduceS l).length then ([], 7) else (reduceS l, 0)) := by
  obtain ⟨hl, hm⟩ := shortP_mem hs
  induction d with
  | zero =>
    intro i k h hd hk
    obtain ⟨k, rfl⟩ : ∃ q, k = q + 1 := ⟨k - 1, by omega⟩
    have hdl : Dirs l := by rw [List.take_of_length_le (by omega)] at hd; exact hd
    unfold aquiferref06_Make.l0
    rw [if_neg (by omega), List.drop_of_length_le (by omega), refreduce hs hdl hln k (by omega), Option.bind_some, List.find?_nil]
    dsimp only
    by_cases h16 : 16 < (reduceS l).length
    · rw [if_pos (by omega), if_pos h16]
    · rw [if_neg (by omega), if_neg h16]
  | succ d ih =>
    intro i k h hd hk
    obtain ⟨k, rfl⟩ : ∃ q, k = q + 1 := ⟨k - 1, by omega⟩
    have hi : i < l.length := by omega
    unfold aquiferref06_Make.l0
    rw [if_pos (by omega), if_pos (by omega), rdB l i hi, refdir _ (hm _ (List.getElem_mem hi)) k (by omega), Option.bind_some, List.drop_eq_getElem_cons hi, List.find?_cons, wr1 i (by omega)]
    by_cases h0 : dirS l[i] = 0
    · rw [if_pos h0, ih (i + 1) k (by omega) (fun x hx => by
        rw [List.take_succ_eq_append_getElem hi] at hx
        rcases List.mem_append.1 hx with hx | hx
        · exact hd x hx
        · rw [List.mem_singleton.1 hx]; exact (dir_iff _).1 h0) (by omega)]
      simp [h0]
    · rw [if_neg h0]
      have : (dirS l[i] != 0) = true := bne_iff_ne.mpr h0
      rw [this]
theorem refmake {l : List ByteArray} (hs : shortP l = true) (hln : l.length ≤ 2000) (k : Nat) (hk : (l.length + 3) * (l.length + 1) + 8000 ≤ k) : aquiferref06_Make.f k l = some (makeS l) := by
  have h := make_ref_loop l hs hln l.length 0 k (by omega) (by simp) (by omega)
  rw [List.drop_zero] at h
  unfold aquiferref06_Make.f makeS
  exact h
theorem same_loop (a b : List ByteArray) (hl : a.length = b.length) (hb : a.length ≤ 100000) (d : Nat) : ∀ (i k : Nat), i + d = a.length → d < k → ∃ r, aquiferref05_SameTexts.l0 k a b (i : Int) = some r ∧ (r = true ↔ a.drop i = b.drop i) := by
  induction d with
  | zero =>
    intro i k h hk
    obtain ⟨k, rfl⟩ : ∃ q, k = q + 1 := ⟨k - 1, by omega⟩
    unfold aquiferref05_SameTexts.l0
    rw [if_neg (by omega), List.drop_of_length_le (by omega), List.drop_of_length_le (by omega)]
    exact ⟨true, rfl, by simp⟩
  | succ d ih =>
    intro i k h hk
    obtain ⟨k, rfl⟩ : ∃ q, k = q + 1 := ⟨k - 1, by omega⟩
    have hi : i < a.length := by omega
    have hj : i < b.length := by omega
    unfold aquiferref05_SameTexts.l0
    rw [if_pos (by omega), if_pos (by omega), if_pos (by omega), rdB a i hi, rdB b i hj, wr1 i (by omega), List.drop_eq_getElem_cons hi, List.drop_eq_getElem_cons hj]
    by_cases he : a[i].toList = b[i].toList
    · rw [if_pos he]
      obtain ⟨r, h1, h2⟩ := ih (i + 1) k (by omega) (by omega)
      exact ⟨r, h1, h2.trans ⟨fun h => by rw [(tlB _ _).1 he, h], fun h => (List.cons.inj h).2⟩⟩
    · rw [if_neg he]
      exact ⟨false, rfl, by
        constructor
        · intro h; cases h
        · intro h; exact absurd ((tlB _ _).2 (List.cons.inj h).1) he⟩
theorem refsame (a b : List ByteArray) (hb : a.length ≤ 100000) (k : Nat) (hk : a.length < k) : ∃ r, aquiferref05_SameTexts.f k a b = some r ∧ (r = true ↔ a = b) := by
  unfold aquiferref05_SameTexts.f
  by_cases hl : a.length = b.length
  · rw [if_pos (by omega)]
    have := same_loop a b hl hb a.length 0 k (by omega) hk
    simpa using this
  · rw [if_neg (by omega)]
    exact ⟨false, rfl, by
      constructor
      · intro h; cases h
      · intro h; exact absurd (by rw [h]) hl⟩
theorem same_refl (a : List ByteArray) (hb : a.length ≤ 100000) (k : Nat) (hk : a.length < k) : aquiferref05_SameTexts.f k a a = some true := by
  obtain ⟨r, h1, h2⟩ := refsame a a hb k hk
  rw [h1, h2.2 rfl]
/-! ### May: what it says of a list -/
theorem may_chain (l : List ByteArray) : ∀ q, isD q → mayA (some q) l = true → Dirs l ∧ Chain l ∧ ∀ x ∈ l, leP q x ∧ ¬ withinS q x = true := by
  induction l with
  | nil => intro q _ _; exact ⟨fun x hx => by simp at hx, List.Pairwise.nil, fun x hx => by simp at hx⟩
  | cons p l ih =>
    intro q hq h
    simp only [mayA, Bool.and_eq_true, beq_iff_eq, decide_eq_true_eq, Bool.not_eq_true'] at h
    obtain ⟨h0, h1, h2, h3⟩ := h
    have dp := (dir_iff p).1 h0
    obtain ⟨i1, i2, i3⟩ := ih p dp h3
    have hqp : leP q p := by rw [leP_iff]; omega
    have hnp : ¬ withinS q p = true := by rw [h2]; decide
    refine ⟨fun x hx => (List.mem_cons.1 hx).elim (fun e => by rw [e]; exact dp) (i1 x), List.pairwise_cons.2 ⟨i3, i2⟩, fun x hx => ?_⟩
    rcases List.mem_cons.1 hx with e | hx
    · rw [e]; exact ⟨hqp, hnp⟩
    · exact ⟨leP_trans hqp (i3 x hx).1, fun hw => hnp (within_between hq dp.1 (i1 x hx).1 hw hqp (i3 x hx).1)⟩
theorem mayA_chain (l : List ByteArray) (h : mayA none l = true) : Dirs l ∧ Chain l := by
  cases l with
  | nil => exact ⟨fun x hx => by simp at hx, List.Pairwise.nil⟩
  | cons p l =>
    simp only [mayA, Bool.and_eq_true, beq_iff_eq] at h
    have dp := (dir_iff p).1 h.1
    obtain ⟨i1, i2, i3⟩ := may_chain l p dp h.2
    exact ⟨fun x hx => (List.mem_cons.1 hx).elim (fun e => by rw [e]; exact dp) (i1 x), List.pairwise_cons.2 ⟨i3, i2⟩⟩
theorem chain_mayA (l : List ByteArray) : ∀ q : Option ByteArray, Dirs l → Chain l → (∀ y, q = some y → ∀ x ∈ l, leP y x ∧ ¬ withinS y x = true) → mayA q l = true := by
  induction l with
  | nil => intro q _ _ _; cases q <;> rfl
  | cons p l ih =>
    intro q hd hc hq
    unfold Chain at hc
    rw [List.pairwise_cons] at hc
    have h0 := (dir_iff p).2 (hd p List.mem_cons_self)
    have hr := ih (some p) (fun x hx => hd x (List.mem_cons_of_mem _ hx)) hc.2 (fun y hy x hx => by cases hy; exact hc.1 x hx)
    cases q with
    | none => simp only [mayA, h0, hr]; rfl
    | some y =>
      have h1 := hq y rfl p List.mem_cons_self
      have h2 : pcmp y p < 0 := by
        have a := (leP_iff y p).1 h1.1
        have b : pcmp y p ≠ 0 := fun e => h1.2 (by rw [good_path.eq _ _ e]; exact within_refl _)
        omega
      simp only [mayA, h0, hr, decide_eq_true h2, Bool.eq_false_iff.2 h1.2]
      rfl
theorem may_open {l : List ByteArray} (h : mayS l = true) : Dirs l ∧ Chain l ∧ l.length ≤ 16 := by
  have hl := may_len h
  unfold mayS at h
  rw [Bool.and_eq_true] at h
  exact ⟨(mayA_chain l h.1).1, (mayA_chain l h.1).2, hl⟩
theorem may_mk {l : List ByteArray} (hd : Dirs l) (hc : Chain l) (hl : l.length ≤ 16) : mayS l = true := by
  unfold mayS
  rw [chain_mayA l none hd hc (fun y hy => by cases hy), decide_eq_true hl]
  rfl
theorem chain_cov (l : List ByteArray) : ∀ x ∈ l, cov l x = true := fun x hx => (cov_iff l x).2 ⟨x, hx, within_refl x⟩
theorem reduce_self {l : List ByteArray} (hd : Dirs l) (hc : Chain l) : reduceS l = l := reduce_one hd hc (fun _ h => h) (chain_cov l)
theorem make_dirs {l : List ByteArray} (hd : Dirs l) : makeS l = if 16 < (reduceS l).length then ([], 7) else (reduceS l, 0) := by
  unfold makeS
  rw [(find_dirs l).2 hd]
theorem make_may {l : List ByteArray} (h : mayS l = true) : makeS l = (l, 0) := by
  obtain ⟨hd, hc, hl⟩ := may_open h
  rw [make_dirs hd, reduce_self hd hc, if_neg (by omega)]
/-- What Make made. -/
theorem make_ok {l : List ByteArray} (h : (makeS l).2 = 0) : Dirs l ∧ (makeS l).1 = reduceS l ∧ mayS (reduceS l) = true := by
  have hd : Dirs l := by
    rw [← find_dirs]
    cases hf : l.find? (fun p => dirS p != 0) with
    | none => rfl
    | some p =>
      have := List.find?_some hf
      unfold makeS at h
      rw [hf] at h
      simp only [bne_iff_ne] at this
      exact absurd h this
  rw [make_dirs hd] at h ⊢
  by_cases h16 : 16 < (reduceS l).length
  · rw [if_pos h16] at h; exact absurd h (by decide)
  · rw [if_neg h16]
    obtain ⟨s1, _, s3⟩ := reduce_spec hd
    exact ⟨hd, rfl, may_mk (fun x hx => hd x (s1 x hx)) s3 (by omega)⟩
theorem makeS_len (l : List ByteArray) : (makeS l).1.length ≤ l.length := by
  unfold makeS
  have := reduceS_len l
  split
  · exact Nat.zero_le _
  · split
    · exact Nat.zero_le _
    · exact this
theorem refmay {l : List ByteArray} (hs : shortP l = true) (hln : l.length ≤ 2000) (k : Nat) (hk : (l.length + 3) * (l.length + 1) + 8000 ≤ k) : aquiferref06_May.f k l = some (mayS l) := by
  unfold aquiferref06_May.f
  rw [refmake hs hln k hk, Option.bind_some]
  obtain ⟨r, h1, h2⟩ := refsame (makeS l).1 l (by have := makeS_len l; omega) k (by have := makeS_len l; omega)
  by_cases h0 : (makeS l).2 = 0
  · rw [if_pos h0, h1, Option.bind_some]
    congr 1
    rw [Bool.eq_iff_iff, h2]
    constructor
    · intro e
      obtain ⟨_, m1, m2⟩ := make_ok h0
      rw [m1] at e
      rw [e] at m2
      exact m2
    · intro hm; rw [make_may hm]
  · rw [if_neg h0]
    congr 1
    symm
    exact Bool.eq_false_iff.2 (fun hm => h0 (by rw [make_may hm]))
/-! ### few, works -/
def fewP (l : List ByteArray) : List ByteArray := (l.take 20).map fun p => p.extract 0 (mn (p.size : Int) 150).toNat
theorem mn_150 (n : Nat) (m : Int) (hm : 0 ≤ m) : 0 ≤ mn (n : Int) m ∧ mn (n : Int) m ≤ (n : Int) ∧ mn (n : Int) m ≤ m := by unfold mn; split <;> omega
theorem cut_size (p : ByteArray) (m : Int) (hm : 0 ≤ m) : ((p.extract 0 (mn (p.size : Int) m).toNat).size : Int) ≤ m := by
  rw [ByteArray.size_extract]
  have := mn_150 p.size m hm
  omega
theorem cut_same (p : ByteArray) (h : p.size ≤ 150) : p.extract 0 (mn (p.size : Int) 150).toNat = p := by
  have h1 : mn (p.size : Int) 150 = (p.size : Int) := by unfold mn; rw [if_neg (by omega)]
  rw [h1, Int.toNat_natCast]
  apply ByteArray.ext
  simp
theorem few_loop (l : List ByteArray) (d : Nat) : ∀ (i k : Nat) (out : List ByteArray), i + d = min l.length 20 → d < k → out.length ≤ i → aquiferlaw06_few.l0 k l out (i : Int) = some (out ++ fewP (l.drop i |>.take (20 - i))) := by
  induction d with
  | zero =>
    intro i k out h hk ho
    obtain ⟨k, rfl⟩ : ∃ q, k = q + 1 := ⟨k - 1, by omega⟩
    unfold aquiferlaw06_few.l0
    by_cases hl : i < l.length
    · rw [if_pos (by omega), if_neg (by omega)]
      have : 20 - i = 0 := by omega
      rw [this, List.take_zero]
      simp [fewP]
    · rw [if_neg (by omega), List.drop_of_length_le (by omega)]
      simp [fewP]
  | succ d ih =>
    intro i k out h hk ho
    obtain ⟨k, rfl⟩ : ∃ q, k = q + 1 := ⟨k - 1, by omega⟩
    have hi : i < l.length := by omega
    have hm := mn_150 l[i].size 150 (by decide)
    unfold aquiferlaw06_few.l0
    rw [if_pos (by omega), if_pos (by omega), if_pos (by omega), rdB l i hi, if_pos hm.1, if_pos hm.2.1, if_pos (by omega), wr1 i (by omega), ih (i + 1) k _ (by omega) (by omega) (by simp; omega), List.drop_eq_getElem_cons hi, show 20 - i = (20 - (i + 1)) + 1 by omega, List.take_succ_cons]
    have e : ∀ (x : ByteArray) (m : List ByteArray), m.length < 20 → fewP (x :: m) = x.extract 0 (mn (x.size : Int) 150).toNat :: fewP m := by
      intro x m hm
      unfold fewP
      rw [List.take_of_length_le (by simp; omega), List.take_of_length_le (by omega), List.map_cons]
    rw [e _ _ (by rw [List.length_take]; omega), List.append_assoc]
    rfl
theorem few_fn (l : List ByteArray) (k : Nat) (hk : 21 ≤ k) : aquiferlaw06_few.f k l = some (fewP l) := by
  have h := few_loop l (min l.length 20) 0 k [] (by omega) (by omega) (Nat.le_refl _)
  unfold aquiferlaw06_few.f
  have e : fewP (l.take 20) = fewP l := by unfold fewP; rw [List.take_take, Nat.min_self]
  rw [List.drop_zero, List.nil_append, Nat.sub_zero, e] at h
  exact h
theorem few_len (l : List ByteArray) : (fewP l).length ≤ 20 := by
  unfold fewP
  rw [List.length_map, List.length_take]
  omega
theorem few_size (l : List ByteArray) : ∀ p ∈ fewP l, p.size ≤ 150 := by
  intro p hp
  unfold fewP at hp
  obtain ⟨x, _, rfl⟩ := List.mem_map.1 hp
  have := cut_size x 150 (by decide)
  omega
theorem few_short (l : List ByteArray) : shortP (fewP l) = true := shortP_mk (by have := few_len l; omega) (fun p hp => by have := few_size l p hp; omega)
theorem few_few (l : List ByteArray) : fewP (fewP l) = fewP l := by
  have h1 := few_len l
  have h2 := few_size l
  generalize fewP l = m at h1 h2
  unfold fewP
  rw [List.take_of_length_le h1]
  have : m.map (fun p => p.extract 0 (mn (p.size : Int) 150).toNat) = m.map id := List.map_congr_left (fun p hp => cut_same p (h2 p hp))
  rw [this, List.map_id]
theorem works_60 : aquiferlaw06_works.f 60 = some true := by decide +kernel
theorem works_fn (k : Nat) (hk : 60 ≤ k) : aquiferlaw06_works.f k = some true := at_rounds (aquiferlaw06_works.mono) hk works_60
end Go.Proofs.YtkflalaocnghcaaDoor.Q

namespace Go.Proofs.YtkflalaocnghcaaDoor.Q
open Go Go.Proofs Go.Shelf Go.RowKit Go.Lib Go.Sort Go.Proofs.YtkflalaocnghcaaDoorP Go.Proofs.YtkflalaocnghcaaDoorK Go.Proofs.YtkflalaocnghcaaDoorW.PrintWords Go.Proofs.YtkflalaocnghcaaDoorW.PrintLast Go.Proofs.YtkflalaocnghcaaDoorW.PrintMore
theorem has_fn {l : List ByteArray} {p : ByteArray} (h1 : l.length ≤ 1048576) (h2 : p.size ≤ 65536) : scope_Has.f l p = some (hasS l p) := by
  unfold scope_Has.f
  rw [if_pos ⟨h1, h2⟩]
theorem tells_big (l0 l1 : List ByteArray) (a2 : ByteArray) (k : Nat) (hk : 20000 ≤ k) : aquiferlaw06_ScopeTells.f k l0 l1 a2 = some true := by
  have hs0 := few_short l0
  have hn0 := few_len l0
  have hs1 := few_short l1
  have hn1 := few_len l1
  have hm := mn_150 a2.size 150 (by decide)
  have hc := cut_size a2 150 (by decide)
  unfold aquiferlaw06_ScopeTells.f
  rw [few_fn l0 k (by omega), Option.bind_some, few_fn l1 k (by omega), Option.bind_some, if_pos hm.1, if_pos hm.2.1]
  generalize fewP l0 = a at hs0 hn0
  generalize fewP l1 = b at hs1 hn1
  generalize a2.extract 0 (mn (a2.size : Int) 150).toNat = p at hc
  rw [has_fn (by omega) (by omega), Option.bind_some, refhas a p hs0 (by omega) k (by omega), Option.bind_some, if_pos (by simp)]
  unfold scope_Covers.f
  rw [if_pos ⟨by omega, hs1⟩, Option.bind_some, refcovers a b hs0 hs1 k (by omega), Option.bind_some, if_pos (by simp), works_fn k (by omega), Option.bind_some]
theorem ScopeTells_pure (l0 : List ByteArray) (l1 : List ByteArray) (a2 : ByteArray) (_h0 : l0.length * 16 ≤ 140737488351232) (_g0 : ∀ a ∈ l0, a.size ≤ 9223372036854775807) (_h1 : l1.length * 16 ≤ 140737488351232) (_g1 : ∀ a ∈ l1, a.size ≤ 9223372036854775807) (_g2 : a2.size ≤ 140737488351232) : ∃ k, aquiferlaw06_ScopeTells.f k l0 l1 a2 = some true := ⟨20000, tells_big l0 l1 a2 20000 (Nat.le_refl _)⟩
end Go.Proofs.YtkflalaocnghcaaDoor.Q

namespace Go.Proofs.YtkflalaocnghcaaDoor.scopeTells
open Go.ChangeShapes Go.WideShapes Go.ChangeAt Go.RowKit Go.Proofs.YtkflalaocnghcaaDoorK Go.Proofs.YtkflalaocnghcaaDoorW.PrintWords Go.Proofs.YtkflalaocnghcaaDoor.Q
open Go.ChangeMaps (open_string shut_string)
set_option linter.unusedVariables false
theorem own : ownKnob Tryd.prog.godebug = none := by kernel_rfl
theorem laidOut : laidOutB Tryd.prog = true := by kernel_rfl
set_option maxRecDepth 100000 in
theorem lifted (os : Os) (started : os.Started) (H : Type) (enc : TypeId × Value → H) :
    ReturnsInHanded {} Tryd.checked os 4 .any (fun w args => (Rows.scopeTellsSpec.pre enc Tryd.prog Tryd.f4 Rows.scopeTellsRow.domain false w args ∧ laidMetH Tryd.prog Rows.scopeTellsRow.laid w) ∧ sizedMet enc Tryd.prog Tryd.f4 (OpenSpec.ofChange Rows.scopeTellsSpec) false w args) (Rows.scopeTellsSpec.post enc Tryd.prog Tryd.f4 false true false false) := by
  refine returnsInHanded_of_change_and (C := Tryd.checked) (X := fun w _ => laidMetH Tryd.prog Rows.scopeTellsRow.laid w) (fun _ _ _ hh h => h.of_heap hh) own started (by kernel_rfl) Tryd.func4
    (ChangeSpec.witness_shaped (enc := enc) (C := Tryd.checked) (os := os) (X := fun w _ => laidMetH Tryd.prog Rows.scopeTellsRow.laid w) false (World.laidAll Tryd.prog os Rows.scopeTellsRow.laid) #[.slice none 0 0, .slice none 0 0, .string ByteArray.empty] 8 (World.laidAll_os _ _ _)
      (World.shaped_of_ZipB (by kernel_rfl) (by kernel_rfl)) (by kernel_rfl) (by kernel_rfl) (by kernel_rfl)
      (by rw [MakeChecks.laidMetH_plain _ _ _ (by kernel_rfl)]; exact laidMet_laidAll _ (by kernel_rfl) (by kernel_rfl))) ?_
  intro W base args ds gs before hval0 hW hcnd hsz0 _ _
  have hsz : (DataW.weightsEach Tryd.prog (Tryd.f4.params.toList ++ Rows.scopeTellsSpec.plain.varTypes Tryd.prog) (ds ++ gs)).all (· ≤ reachBytes) = true := hsz0
  have hval : ∀ (j : Nat) t v, Tryd.f4.params[j]? = some t → args[j]? = some v → Value.okWide Tryd.prog W .any base t v := hval0
  have hW' := hW
  obtain ⟨p, q, hA0, hV, rfl, hfz, hnd⟩ := hW
  have hA : DataW.TrodAll enc Tryd.prog W 0 (fun _ => true) true Tryd.f4.params.toList args.toList ds p := hA0
  rw [Tryd.params4] at hA hval hsz
  obtain ⟨v0, vs0, d0, ds0, p0, q0, hargs, rfl, rfl, h0, r0⟩ := trodAll_cons hA
  obtain ⟨v1, vs1, d1, ds1, p1, q1, rfl, rfl, rfl, h1, r1⟩ := trodAll_cons r0
  obtain ⟨v2, vs2, d2, ds2, p2, q2, rfl, rfl, rfl, h2, r2⟩ := trodAll_cons r1
  obtain ⟨rfl, rfl, rfl⟩ := trodAll_nil r2
  obtain rfl : args = #[v0, v1, v2] := by cases args; simp_all
  obtain ⟨rfl, rfl⟩ := trodVars_none hV
  obtain ⟨a0, len0, cap0, rfl⟩ := okWide_slice Tryd.underlying22 (hval 0 22 v0 rfl rfl)
  have k0 := h0
  have lt0 : ∀ x ∈ p0, x.block < W.heap.size := by obtain ⟨m, hm⟩ := k0; exact DataW.trod_lt m _ _ _ hm
  have y0 : len0 * 16 ≤ 140737488351232 := sized_row hsz (j := 0) (t := 22) rfl rfl Tryd.underlying22 (by kernel_rfl) h0
  obtain ⟨l0, ⟨A0, c0, he0, hl0, hC0⟩, _, hG0⟩ : ∃ l, (Kd.slice 9 Kd.string).K W l [.slice a0 len0 cap0] ∧ l.length ≤ 9223372036854775807 ∧ ∀ a ∈ l, a.size ≤ 9223372036854775807 := by
    obtain ⟨fuel, hf⟩ := h0
    exact (opens_slice (e := 9) Tryd.underlying22 (by kernel_rfl) (opens_string Tryd.underlying9)) _ _ _ _ _ _ _ _ _ hf
  simp only [List.cons.injEq, Value.slice.injEq, and_true] at he0
  obtain ⟨rfl, rfl, rfl⟩ := he0
  obtain ⟨a1, len1, cap1, rfl⟩ := okWide_slice Tryd.underlying22 (hval 1 22 v1 rfl rfl)
  have k1 := h1
  have lt1 : ∀ x ∈ p1, x.block < W.heap.size := by obtain ⟨m, hm⟩ := k1; exact DataW.trod_lt m _ _ _ hm
  have y1 : len1 * 16 ≤ 140737488351232 := sized_row hsz (j := 1) (t := 22) rfl rfl Tryd.underlying22 (by kernel_rfl) h1
  obtain ⟨l1, ⟨A1, c1, he1, hl1, hC1⟩, _, hG1⟩ : ∃ l, (Kd.slice 9 Kd.string).K W l [.slice a1 len1 cap1] ∧ l.length ≤ 9223372036854775807 ∧ ∀ a ∈ l, a.size ≤ 9223372036854775807 := by
    obtain ⟨fuel, hf⟩ := h1
    exact (opens_slice (e := 9) Tryd.underlying22 (by kernel_rfl) (opens_string Tryd.underlying9)) _ _ _ _ _ _ _ _ _ hf
  simp only [List.cons.injEq, Value.slice.injEq, and_true] at he1
  obtain ⟨rfl, rfl, rfl⟩ := he1
  obtain ⟨a2, rfl, rfl, rfl, y2⟩ := open_string Tryd.underlying9 (hval 2 9 v2 rfl rfl) h2
  have w2 : a2.size ≤ 140737488351232 := by
    have z := sized_string hsz (j := 2) (t := 9) rfl rfl
    rw [Array.length_toList] at z
    exact z
  clear hA0 hval0 hsz0 hsz
  obtain ⟨k, hP⟩ := ScopeTells_pure l0 l1 a2 y0 hG0 y1 hG1 w2
  refine (aquiferlaw06_ScopeTells.calls k _ _ l0 _ _ l1 a2 true W hC0 hl0 hC1 hl1 hP).mono fun e W' he0 => ?_
  obtain ⟨rfl, bel0⟩ := he0
  have bel : Below W.heap.size W W' := bel0
  exact ⟨_, rfl, _, _, _, [], _, [], hW', trodAll_mk1 (shut_bool Tryd.underlying4 _), (trodAll_cons_mk (Below.trod laidOut (by kernel_rfl) (of_decide_eq_true (by kernel_rfl)) k0 bel lt0) (trodAll_cons_mk (Below.trod laidOut (by kernel_rfl) (of_decide_eq_true (by kernel_rfl)) k1 bel lt1) (trodAll_cons_mk (shut_string Tryd.underlying9 y2) trodAll_mk0))), rfl, bel.frame _, fun h => by cases h⟩
theorem over : Rows.scopeTellsRow.holds Tryd.pinned (OpenSpec.ofChange Rows.scopeTellsSpec) :=
  OpenClaim.holds_of_wide 4 Tryd.f4 rfl rfl rfl rfl rfl rfl rfl ⟨rfl, rfl, rfl, rfl, rfl⟩ rfl rfl rfl rfl rfl (by kernel_rfl) Tryd.func4 (by kernel_rfl)
    (of_decide_eq_true (by kernel_rfl)) (by unfold Func.isWrapper; first | (rw [if_pos (by decide +kernel)]; kernel_rfl) | (rw [if_neg (by decide +kernel)]; exact ⟨rfl, rfl⟩))
    (fun os started H enc _ => lifted os started H enc)
theorem card : Rows.ScopeTellsCardSaid :=
  Claim7.holds_tied_plain_at .later [] [.data, .pinned] true (true, "067b717ea2883e1b3b9eac4b170a2c4c73abc7f928e7b64b41a4e1bdbf2de1a7") false over (fun _ h => by cases h) (by kernel_rfl) (fun _ h => by cases h) scopeTells_row_tie rfl ⟨rfl, rfl⟩ (by kernel_rfl) rfl
    (fun f fn hf hfn => by
      obtain rfl : f = 4 := Option.some.inj ((show Tryd.prog.funcNamed "aquifer/aquiferlaw06.ScopeTells" = some 4 by kernel_rfl).symm.trans hf) |>.symm
      obtain rfl : fn = Tryd.f4 := (Option.some.inj (Tryd.func4.symm.trans hfn)).symm
      exact ⟨by kernel_rfl, fun j t ht => by
        rw [Tryd.params4] at ht
        have hm : t ∈ [22, 22, 9] := by simpa using Array.mem_of_getElem? ht
        have hall : ([22, 22, 9].all fun u => !Tryd.prog.wantsStandIn u) = true := by kernel_rfl
        exact (show Tryd.prog.wantsStandIn t = false by simpa using List.all_eq_true.1 hall t hm)⟩)
    (by kernel_rfl)
theorem proved : Rows.ScopeTellsCardSaid := card
#print axioms proved
end Go.Proofs.YtkflalaocnghcaaDoor.scopeTells
namespace Go.Proofs.YtkflalaocnghcaaDoor
/-- The card, under a short name, for the claim. -/
theorem scopeTells_holds : Rows.ScopeTellsCardSaid := scopeTells.proved
end Go.Proofs.YtkflalaocnghcaaDoor
