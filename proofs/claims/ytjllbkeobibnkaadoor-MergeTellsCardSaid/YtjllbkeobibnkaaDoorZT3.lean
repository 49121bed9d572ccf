/-
What is proved: aquifer/aquiferlaw28.MergeTells answers true for every input, and leaves its arguments as they were.
-/
import Derived.Test.YtjllbkeobibnkaaDoorZT2
import Derived.Test.YtjllbkeobibnkaaDoorZT1
import Derived.Shelf.Abstract
import Derived.StillTailTactics
import Derived.BigQuiet
import Derived.Deep.RegionHeld3
import Derived.Test.YtjllbkeobibnkaaDoorRows
import Derived.Test.YtjllbkeobibnkaaDoorCards
import Derived.Test.YtjllbkeobibnkaaDoorTie
import Derived.WalkKit
import Derived.ProofKit
import Derived.OpenShut
import Derived.ShutString
import Derived.ChangeOld
import Derived.Below
import Derived.SizedLaws
import Derived.LaidLaws
import Derived.LaidMore
import Derived.Lay
import Derived.SevenTiedAt
import Derived.Stop.Joined
namespace Go.Proofs.YtjllbkeobibnkaaDoor.Q
open Go Go.Proofs Go.Shelf Go.RowKit Go.Lib Go.Sort Go.Proofs.YtjllbkeobibnkaaDoorP Go.Proofs.YtjllbkeobibnkaaDoorK Go.Proofs.YtjllbkeobibnkaaDoorW.PrintWords Go.Proofs.YtjllbkeobibnkaaDoorW.PrintLast Go.Proofs.YtjllbkeobibnkaaDoorW.PrintMore
set_option linter.unusedSimpArgs false
set_option linter.unusedVariables false
/-! ### merge.paths -/
def newK (p : ByteArray) : S58 := ⟨p, z51⟩
/-- Sides of few paths. -/
def fewK (l : List S58) : Bool := decide (l.length ≤ 1000) && l.all fun k => decide (k.f0.size ≤ 32000)
theorem fewK_open {l : List S58} (h : fewK l = true) : l.length ≤ 1000 ∧ ∀ k ∈ l, k.f0.size ≤ 32000 := by
  unfold fewK at h
  simpa using h
theorem fewK_short {l : List S58} (h : fewK l = true) : shortK l = true := by
  obtain ⟨h1, h2⟩ := fewK_open h
  unfold shortK
  rw [decide_eq_true (by omega : l.length ≤ 1048576), Bool.true_and, List.all_eq_true]
  intro k hk
  have := h2 k hk
  exact decide_eq_true (by omega)
def tinyS (s : S24) : Bool := fewK s.f0 && (fewK s.f1 && fewK s.f2)
theorem tinyS_open {s : S24} (h : tinyS s = true) : fewK s.f0 = true ∧ fewK s.f1 = true ∧ fewK s.f2 = true := by
  unfold tinyS at h
  simpa using h
theorem tinyS_ok {s : S24} (h : tinyS s = true) : okS s = true := by
  obtain ⟨h1, h2, h3⟩ := tinyS_open h
  unfold okS
  rw [fewK_short h1, fewK_short h2, fewK_short h3]
  rfl
def pathsS (s : S24) : List ByteArray := mergeL (mergeL (pathsK s.f0) (pathsK s.f1)) (pathsK s.f2)
theorem mergeL_mem (x : List ByteArray) : ∀ y p, p ∈ mergeL x y → p ∈ x ∨ p ∈ y := by
  induction x with
  | nil => intro y p h; exact .inr h
  | cons a x ih =>
    intro y
    induction y with
    | nil =>
      intro p h
      rw [mergeL_end] at h
      rcases List.mem_cons.1 h with e | h
      · exact .inl (e ▸ List.mem_cons_self)
      · rcases ih [] p h with h | h
        · exact .inl (List.mem_cons_of_mem _ h)
        · exact .inr h
    | cons b y ih2 =>
      intro p h
      rw [mergeL_cons] at h
      split at h
      · rcases List.mem_cons.1 h with e | h
        · exact .inl (e ▸ List.mem_cons_self)
        · rcases ih _ p h with h | h
          · exact .inl (List.mem_cons_of_mem _ h)
          · exact .inr h
      · split at h
        · rcases List.mem_cons.1 h with e | h
          · exact .inr (e ▸ List.mem_cons_self)
          · rcases ih2 p h with h | h
            · exact .inl h
            · exact .inr (List.mem_cons_of_mem _ h)
        · rcases List.mem_cons.1 h with e | h
          · exact .inl (e ▸ List.mem_cons_self)
          · rcases ih _ p h with h | h
            · exact .inl (List.mem_cons_of_mem _ h)
            · exact .inr (List.mem_cons_of_mem _ h)
theorem pathsK_new (l : List ByteArray) : pathsK (l.map newK) = l := by
  unfold pathsK
  rw [List.map_map]
  exact List.map_id' l
theorem C_str' {w : World} {A : Option Addr} {l : List ByteArray} (h : Kd.C Kd.string w A l.length l) (j : Nat) (hj : j < l.length) : ∃ ad, A = some ad ∧ w.cell? (ad.add j) = some (.string l[j]) := by
  obtain ⟨ad, e, hc⟩ := h.2.2 (by omega)
  obtain ⟨c, h1, h2, h3⟩ := hc j l[j] (List.getElem?_eq_getElem hj)
  refine ⟨ad, e, ?_⟩
  have h2' : c = [Value.string l[j]] := h2
  have h4 := h3 0 (Value.string l[j]) (by rw [h2']; rfl)
  have h5 : j * (Kd.string).sz + 0 = j := by show j * 1 + 0 = j; omega
  rwa [h5] at h4
attribute [local go_sem] A51_size A51_0 A51_1 A51_g0 A51_g1 A58_size A58_0 A58_1 A58_2 A58_g0 A58_g1 A58_g2 cell_held frozen_held
attribute [local go_sem] zero51 zero58 zero65 set58 laid58
attribute [local go_sem ↓ high] lvx_of
attribute [local go_sem] lv_sc lv24 lv33
attribute [local go_sem ↓ high] lv51 lv51s lv58 lv58a lv65 lv65a lv65l lv65r sc51 sc58 sc65 sc65a sc65l sc65r sc58a
set_option maxRecDepth 100000 in
set_option maxHeartbeats 4000000 in
theorem paths_any (w : World) (s : S24) (v : Array Value) (hs : SideIn w s v) (ht : tinyS s = true) :
    Calls Tryd.prog 43 #[.agg v] w fun e w' => ∃ v, e = .returned v ∧ Kd.string.R 9 w' w.heap.size (fun _ => True) v (pathsS s) ∧ Below w.heap.size w w' := by
  obtain ⟨A, c, B, d, C, e, rfl, l1, l2, l3, h1, h2, h3⟩ := hs.out
  obtain ⟨t1, t2, t3⟩ := tinyS_open ht
  have HM1 := Aside0.mk (fun W (hb : Below w.heap.size w W) => merge_any W A c s.f0 B d s.f1 (Kd.C_below h1 hb) (fewK_short t1) l1 (Kd.C_below h2 hb) (fewK_short t2) l2)
  have hl1 : (mergeL (pathsK s.f0) (pathsK s.f1)).length ≤ 2000 := by
    have := mergeL_len (pathsK s.f0) (pathsK s.f1)
    have a1 := (fewK_open t1).1
    have a2 := (fewK_open t2).1
    unfold pathsK at this ⊢
    rw [List.length_map, List.length_map] at this
    omega
  have hm1 : ∀ p ∈ mergeL (pathsK s.f0) (pathsK s.f1), p.size ≤ 32000 := fun p hp => by
    rcases mergeL_mem _ _ p hp with h | h
    · obtain ⟨k, hk, rfl⟩ := List.mem_map.1 h
      exact (fewK_open t1).2 k hk
    · obtain ⟨k, hk, rfl⟩ := List.mem_map.1 h
      exact (fewK_open t2).2 k hk
  obtain ⟨R, hR⟩ : ∃ R, pathsS s = R := ⟨_, rfl⟩
  rw [hR]
  unfold pathsS at hR
  generalize mergeL (pathsK s.f0) (pathsK s.f1) = l at HM1 hl1 hm1 hR
  have hsh : shortK (l.map newK) = true := by
    unfold shortK
    rw [List.length_map, decide_eq_true (by omega : l.length ≤ 1048576), Bool.true_and, List.all_eq_true]
    intro k hk
    obtain ⟨p, hp, rfl⟩ := List.mem_map.1 hk
    have := hm1 p hp
    exact decide_eq_true (by show p.size ≤ 65536; omega)
  have HM2 := Aside0.mk (fun W (hb : Below w.heap.size w W) A' c' n (hn : n = (l.map newK).length) (hA : k58.C W A' n (l.map newK)) (hc' : n ≤ c') => by
    have := merge_any W A' c' (l.map newK) C e s.f2 (hn ▸ hA) hsh (hn ▸ hc') (Kd.C_below h3 hb) (fewK_short t3) l3
    rw [← hn] at this
    exact this)
  rw [pathsK_new, hR] at HM2
  clear hs ht l1 l2 l3 h1 h2 h3 t1 t2 t3 hm1 hR hsh
  generalize s.f0.length = n0 at HM1 ⊢
  generalize s.f1.length = n1 at HM1 ⊢
  generalize s.f2.length = n2 at HM2 ⊢
  go_enter Tryd.func43, Tryd.ntmps43
  go_wp2_with fail
  refine (HM1.out _ (bel _ _)).mono ?_
  rintro r1 w1 ⟨v1, rfl, hv, hb⟩
  have p1 := prev_call hb
  obtain ⟨A1, c1, rfl⟩ := Kd.R_slice hv
  have HV1 := Aside0.mk hv
  clear hb hv
  go_wp2_with fail
  have hbox : Go.Proofs.YtjllbkeobibnkaaDoorK.Holds w1 w.heap.size (.cells #[.slice A n0 c, .slice B n1 d, .slice C n2 e] 24) := inferInstance
  go_loopw [3, 12] (fun u i wr => ∃ j : Nat, j ≤ l.length ∧ i = .int .i64 (j : Int) ∧ Aside0 (Below w1.heap.size w1 wr) ∧ Aside0 (k58.R 58 wr w1.heap.size (fun _ => True) u ((l.take j).map newK))) (fun _ i _ => l.length - (intOf i).toNat)
  case atStart => exact ⟨0, Nat.zero_le _, rfl, ⟨Below.refl _ _⟩, ⟨Kd.R_nil _ _ _ _ _⟩⟩
  case round =>
    obtain ⟨j, hj, rfl, HB, HO⟩ := hrel
    have pr := prev_call HB.out
    have hlv : ((l.take j).map newK).length = j := by rw [List.length_map, List.length_take]; omega
    obtain ⟨Ao, co, ho⟩ := Kd.R_slice HO.out
    rw [hlv] at ho
    subst ho
    by_cases hlt : j < l.length
    · obtain ⟨ad, e0, x0⟩ := C_str' (Kd.C_below (Kd.R_reads' HV1.out).2.2 HB.out) j hlt
      subst e0
      have ht : l.take (j + 1) = l.take j ++ [l[j]] := List.take_succ_eq_append_getElem hlt
      generalize l[j] = p at x0 ht
      have HT := Aside0.mk ht
      clear ht
      go_wp2_with ((with_reducible refine gate_builtin (b := .append) (xs := #[.tmp 16, .tmp 19]) rfl ?_); at_builtin; refine app58 (w0 := w1) w1.heap.size rfl (.tmp 16) (.tmp 19) rfl (.slice Ao j co) ((l.take j).map newK) (newK p) rfl ?aX ?aO ?aB ?aS ?aL ?_; (case aX => first | rfl | (simp only [World.size_setCell, size_setRow, World.size_alloc]; rfl)); (case aO => exact rowB HO.out (bel wr _)); (case aB => exact (inferInstance : Bel w1.heap.size w1 _).out (by first | exact Nat.le_refl _ | omega)); (case aS => first | exact siz w1 _ | (have := siz w1 _; omega)); (case aL => rw [List.length_map, List.length_take]; omega); intro v6 w6 h6 hb6 hg6 hat6; have p6 := prev_above hb6; have HB6 := Aside0.mk hb6; have HV6 := Aside0.mk h6; clear hb6 h6 hg6 hat6)
      go_roundw
      case rel => exact ⟨j + 1, by omega, by go_num, HB6, ⟨by rw [HT.out, List.map_append]; exact HV6.out⟩⟩
      case measure => simp [intOf]; omega
    · have hv := HO.out
      rw [List.take_of_length_le (by omega)] at hv
      have hjl : j = l.length := by omega
      obtain ⟨_, hc2, hc3⟩ := Kd.R_reads' hv
      rw [List.length_map] at hc3
      rw [hjl] at hc2
      clear hjl
      have HC2 := Aside0.mk hc2
      have HC3 := Aside0.mk hc3
      clear hv hc2 hc3 HO
      go_wp2_with fail
      refine (HM2.out _ ?hb _ _ _ ?hn ?hA HC2.out).mono ?_
      case hn => rw [List.length_map]
      case hb => exact bel _ _
      case hA => exact Kd.C_below HC3.out (bel wr _)
      rintro r1 w2 ⟨v2, rfl, hv, hb⟩
      have p2 := prev_call hb
      have HV2 := Aside0.mk (Kd.R_lower hv (siz w wr))
      clear hb hv
      go_wp2_with fail
      go_ret
      exact ⟨_, rfl, HV2.out, bel _ _⟩
end Go.Proofs.YtjllbkeobibnkaaDoor.Q

namespace Go.Proofs.YtjllbkeobibnkaaDoor.Q
open Go Go.Proofs Go.Shelf Go.RowKit Go.Lib Go.Sort Go.Proofs.YtjllbkeobibnkaaDoorP Go.Proofs.YtjllbkeobibnkaaDoorK Go.Proofs.YtjllbkeobibnkaaDoorW.PrintWords Go.Proofs.YtjllbkeobibnkaaDoorW.PrintLast Go.Proofs.YtjllbkeobibnkaaDoorW.PrintMore
set_option linter.unusedSimpArgs false
set_option linter.unusedVariables false
/-! ### slices.Contains of texts; the plan's predicate -/
def idxB (q : ByteArray) : Nat → List ByteArray → Int
  | _, [] => -1
  | i, x :: l => if (q.toList == x.toList) = true then (i : Int) else idxB q (i + 1) l
theorem idxB_in (q : ByteArray) (l : List ByteArray) : ∀ i : Nat, decide (0 ≤ idxB q i l) = inL l q := by
  induction l with
  | nil => intro i; rfl
  | cons x l ih =>
    intro i
    unfold idxB inL
    rw [List.any_cons]
    have hs : (x.toList == q.toList) = (q.toList == x.toList) := by rw [Bool.eq_iff_iff, beq_iff_eq, beq_iff_eq]; exact eq_comm
    rw [hs]
    cases h : (q.toList == x.toList) with
    | true => rw [if_pos rfl, Bool.true_or]; exact decide_eq_true (by omega)
    | false => rw [if_neg (by decide), Bool.false_or]; exact ih (i + 1)
attribute [local go_sem] cell_held frozen_held
attribute [local go_sem ↓ high] lvx_of
attribute [local go_sem] lv_sc lv24 lv33
set_option maxRecDepth 100000 in
set_option maxHeartbeats 1000000 in
theorem idxs_any (w : World) (A : Option Addr) (c : Nat) (l : List ByteArray) (q : ByteArray) (hC : Kd.C Kd.string w A l.length l) (hl : l.length ≤ 1048576) :
    Calls Tryd.prog 70 #[.slice A l.length c, .string q] w fun e w' => e = .returned (.int .i64 (idxB q 0 l)) ∧ Below w.heap.size w w' := by
  have HR := Aside0.mk hC
  obtain ⟨R, hR⟩ : ∃ R, idxB q 0 l = R := ⟨_, rfl⟩
  rw [hR]
  have HR0 := Aside0.mk hR
  clear hC hR
  go_enter Tryd.func70, Tryd.ntmps70
  go_wp2_with fail
  go_loopw [8] (fun i wr => ∃ j : Nat, j ≤ l.length ∧ i = .int .i64 (j : Int) ∧ Aside0 (idxB q j (l.drop j) = R) ∧ wr = w) (fun i _ => l.length - (intOf i).toNat)
  case atStart => exact ⟨0, Nat.zero_le _, rfl, HR0, rfl⟩
  case round =>
    obtain ⟨j, hj, rfl, HI, hw⟩ := hrel
    obtain rfl : w = wr := hw.symm
    by_cases hlt : j < l.length
    · obtain ⟨ad, e, x0⟩ := C_str' HR.out j hlt
      subst e
      have hI := HI.out
      rw [List.drop_eq_getElem_cons hlt] at hI
      simp only [idxB] at hI
      generalize l[j] = x at x0 hI
      have HII := Aside0.mk hI
      clear HI hI
      cases hx : (q.toList == x.toList) with
      | true =>
        have hI := HII.out
        rw [if_pos hx] at hI
        have HI := Aside0.mk hI
        clear hI
        go_wp2_with fail
        go_ret
        exact ⟨by rw [← HI.out]; rfl, bel _ _⟩
      | false =>
        have hI := HII.out
        rw [if_neg (by rw [hx]; decide)] at hI
        have HI := Aside0.mk hI
        clear hI
        go_wp2_with fail
        go_roundw
        case rel => exact ⟨j + 1, by omega, by go_num, HI, trivial⟩
        case measure => simp [intOf]; omega
    · have hI := HI.out
      rw [List.drop_of_length_le (by omega)] at hI
      have HI' := Aside0.mk hI
      clear hI HI
      go_wp2_with fail
      go_ret
      exact ⟨by rw [← HI'.out]; rfl, bel _ _⟩
set_option maxRecDepth 100000 in
theorem cont_any (w : World) (A : Option Addr) (c : Nat) (l : List ByteArray) (q : ByteArray) (hC : Kd.C Kd.string w A l.length l) (hl : l.length ≤ 1048576) :
    Calls Tryd.prog 46 #[.slice A l.length c, .string q] w fun e w' => e = .returned (.bool (inL l q)) ∧ Below w.heap.size w w' := by
  have HI := Aside0.mk (fun W (hb : Below w.heap.size w W) => idxs_any W A c l q (Kd.C_below hC hb) hl)
  rw [← idxB_in q l 0]
  generalize idxB q 0 l = k at HI
  clear hC
  by_cases h0 : 0 ≤ k
  · have h1 : decide (0 ≤ k) = true := decide_eq_true h0
    rw [h1]
    go_enter Tryd.func46, Tryd.ntmps46
    go_wp2_with fail
    refine (HI.out _ (bel _ _)).mono ?_
    rintro r1 w1 ⟨rfl, hb⟩
    have p1 := prev_call hb
    clear hb
    go_wp2_with fail
    go_ret
    exact ⟨by simp [h0], bel _ _⟩
  · have h1 : decide (0 ≤ k) = false := decide_eq_false h0
    rw [h1]
    go_enter Tryd.func46, Tryd.ntmps46
    go_wp2_with fail
    refine (HI.out _ (bel _ _)).mono ?_
    rintro r1 w1 ⟨rfl, hb⟩
    have p1 := prev_call hb
    clear hb
    go_wp2_with fail
    go_ret
    exact ⟨by simp [h0], bel _ _⟩
/-- What a plan's copies are not taken of. -/
def takenS (s : S24) (ch : List ByteArray) (q : ByteArray) : Bool := hasK s q || inL ch q
set_option maxRecDepth 100000 in
set_option maxHeartbeats 1000000 in
theorem plan1_any (w : World) (s : S24) (v : Array Value) (b b2 : Nat) (A : Option Addr) (cc : Nat) (ch : List ByteArray) (hs : SideIn w s v) (ho : okS s = true) (h : w.heap[b]? = some (.cells v 24 (0, 0))) (h2 : w.heap[b2]? = some (.cells #[.slice A ch.length cc] 41 (0, 0))) (hC : Kd.C Kd.string w A ch.length ch) (hl : ch.length ≤ 1048576) :
    PredF 45 #[.pointer (some ⟨b, 0, none⟩), .pointer (some ⟨b2, 0, none⟩)] (takenS s ch) w := by
  intro W q hb
  have HA := Aside0.mk (fun W' (hb' : Below W.heap.size W W') => has_any W' s v q ((hs.below hb).below hb') (okS_short ho))
  have HC := Aside0.mk (fun W' (hb' : Below W.heap.size W W') => cont_any W' A cc ch q (Kd.C_below (Kd.C_below hC hb) hb') hl)
  have hW := (hb.block b (blk_lt h)).trans h
  have hW2 := (hb.block b2 (blk_lt h2)).trans h2
  obtain ⟨A', c, B, d, C, e, rfl, l1, l2, l3, h1, h2', h3⟩ := hs.out
  have hh : Go.Proofs.YtjllbkeobibnkaaDoorK.Holds W b (.cells #[.slice A' s.f0.length c, .slice B s.f1.length d, .slice C s.f2.length e] 24) := ⟨hW⟩
  have hh2 : Go.Proofs.YtjllbkeobibnkaaDoorK.Holds W b2 (.cells #[.slice A ch.length cc] 41) := ⟨hW2⟩
  have hlt := blk_lt hW
  have hlt2 := blk_lt hW2
  clear hs ho l1 l2 l3 h1 h2 h3 hb hW hW2 h hC hl h2'
  unfold takenS
  show Calls Tryd.prog _ #[.string q, .pointer (some ⟨b, 0, none⟩), .pointer (some ⟨b2, 0, none⟩)] W _
  generalize s.f0.length = n0 at *
  generalize s.f1.length = n1 at *
  generalize s.f2.length = n2 at *
  generalize ch.length = n3 at *
  generalize hasK s q = x at *
  generalize inL ch q = y at *
  cases x with
  | true =>
    go_enter Tryd.func45, Tryd.ntmps45
    go_wp2_with fail
    refine (HA.out _ (bel _ _)).mono ?_
    rintro r1 w1 ⟨rfl, hb⟩
    have p1 := prev_call hb
    clear hb
    go_wp2_with fail
    go_ret
    exact ⟨rfl, bel _ _⟩
  | false =>
    go_enter Tryd.func45, Tryd.ntmps45
    go_wp2_with fail
    refine (HA.out _ (bel _ _)).mono ?_
    rintro r1 w1 ⟨rfl, hb⟩
    have p1 := prev_call hb
    clear hb
    go_wp2_with fail
    refine (HC.out _ (bel _ _)).mono ?_
    rintro r2 w2 ⟨rfl, hb⟩
    have p2 := prev_call hb
    clear hb
    go_wp2_with fail
    go_ret
    exact ⟨rfl, bel _ _⟩
end Go.Proofs.YtjllbkeobibnkaaDoor.Q

namespace Go.Proofs.YtjllbkeobibnkaaDoor.Q
open Go.RowKit Go.Proofs.YtjllbkeobibnkaaDoorW.PrintWords Go.Proofs.YtjllbkeobibnkaaDoorW.PrintLast Go.Proofs.YtjllbkeobibnkaaDoorW.PrintMore Go.Proofs.YtjllbkeobibnkaaDoorK
attribute [local go_sem] max2_int min2_int max_two min_two max_three min_three max_four min_four   -- for this text's walks alone
attribute [local go_sem ↓] Go.Proofs.YtjllbkeobibnkaaDoorK.isSome_setCell
set_option linter.unusedVariables false
set_option linter.unusedSimpArgs false

/-! ### scope_within: function 50 -/
def scope_within.f (a0 : ByteArray) (a1 : ByteArray) : Option (Bool) := if a1.toList = a0.toList then (some true) else ((path_Below.f a0 a1).bind fun t146 => (some t146))
set_option maxHeartbeats 8000000 in
set_option maxRecDepth 100000 in
theorem scope_within.calls (a0 : ByteArray) (a1 : ByteArray) (r : Bool) (w : World) (h : scope_within.f a0 a1 = some r) :
    Calls Tryd.prog 50 #[.string a0, .string a1] w fun e w' => e = .returned (.bool r) ∧ Below w.heap.size w w' := by
  have HB := Aside0.mk (Below.refl w.heap.size w)
  have H : (if a1.toList = a0.toList then (some true) else ((path_Below.f a0 a1).bind fun t146 => (some t146))) = some r := h
  clear h
  by_cases c3 : a1.toList = a0.toList
  · rw [if_pos c3] at H
    have c3b0 : (a1.toList == a0.toList) = true := beq_iff_eq.mpr c3
    have c3b1 : (a1.toList != a0.toList) = false := bne_eq_false_iff_eq.mpr c3
    clear c3
    obtain rfl := Option.some.inj H
    go_enter Tryd.func50, Tryd.ntmps50
    go_wp2
    go_ret
    exact ⟨by first | rfl | (simp [errW_none, errW_some] <;> rfl) | (simp [*, errW_none, errW_some] <;> rfl), belU HB.out⟩
  · rw [if_neg c3] at H
    have c3b0 : (a1.toList == a0.toList) = false := beq_eq_false_iff_ne.mpr c3
    have c3b1 : (a1.toList != a0.toList) = true := bne_iff_ne.mpr c3
    replace H := Option.bind_eq_some_iff.mp H
    obtain ⟨t146, A40, H⟩ := H
    replace H : (some t146) = some r := H
    have A4 := Aside0.mk A40
    clear A40
    obtain rfl := Option.some.inj H
    go_enter Tryd.func50, Tryd.ntmps50
    go_wp2_with (first | (go_at_call 74; (with_reducible refine (path_Below.calls a0 a1 t146 _ A4.out).mono ?_); rintro e w5 ⟨rfl, hb⟩; have n0_ := Aside0.mk (below_step (belU HB.out) hb); clear HB; have HB := n0_; clear n0_; (try clear hb); (try clear hb2); (try clear hk); (try clear hi)))
    go_ret
    exact ⟨by first | rfl | (simp [errW_none, errW_some] <;> rfl) | (simp [*, errW_none, errW_some] <;> rfl), belU HB.out⟩

end Go.Proofs.YtjllbkeobibnkaaDoor.Q

namespace Go.Proofs.YtjllbkeobibnkaaDoor.Q
open Go.RowKit Go.Proofs.YtjllbkeobibnkaaDoorW.PrintWords Go.Proofs.YtjllbkeobibnkaaDoorW.PrintLast Go.Proofs.YtjllbkeobibnkaaDoorW.PrintMore Go.Proofs.YtjllbkeobibnkaaDoorK
attribute [local go_sem] max2_int min2_int max_two min_two max_three min_three max_four min_four   -- for this text's walks alone
attribute [local go_sem ↓] Go.Proofs.YtjllbkeobibnkaaDoorK.isSome_setCell
set_option linter.unusedVariables false
set_option linter.unusedSimpArgs false

/-! ### scope_dir: function 68 -/
def scope_dir.f (a0 : ByteArray) : Option (Int) := (path_Kind.f a0).bind fun bt147 => (if bt147.2 = 0 then (if bt147.1 = 2 then (some 13) else (some bt147.2)) else (some bt147.2))
set_option maxHeartbeats 8000000 in
set_option maxRecDepth 100000 in
theorem scope_dir.calls (a0 : ByteArray) (r : Int) (w : World) (h : scope_dir.f a0 = some r) :
    Calls Tryd.prog 68 #[.string a0] w fun e w' => e = .returned (.int .i64 r) ∧ Below w.heap.size w w' := by
  have HB := Aside0.mk (Below.refl w.heap.size w)
  have H : ((path_Kind.f a0).bind fun bt147 => (if bt147.2 = 0 then (if bt147.1 = 2 then (some 13) else (some bt147.2)) else (some bt147.2))) = some r := h
  clear h
  replace H := Option.bind_eq_some_iff.mp H
  obtain ⟨⟨t147, t148⟩, A20, H⟩ := H
  replace H : (if t148 = 0 then (if t147 = 2 then (some 13) else (some t148)) else (some t148)) = some r := H
  have A2 := Aside0.mk A20
  clear A20
  by_cases c3 : t148 = 0
  · rw [if_pos c3] at H
    have c3b0 : (t148 == 0) = true := beq_iff_eq.mpr c3
    have c3b1 : (t148 != 0) = false := bne_eq_false_iff_eq.mpr c3
    clear c3
    by_cases c4 : t147 = 2
    · rw [if_pos c4] at H
      have c4b0 : (t147 == 2) = true := beq_iff_eq.mpr c4
      have c4b1 : (t147 != 2) = false := bne_eq_false_iff_eq.mpr c4
      clear c4
      obtain rfl := Option.some.inj H
      go_enter Tryd.func68, Tryd.ntmps68
      go_wp2_with (first | ((with_reducible refine gate_callee (f := 47) rfl ?_); refine goesL_ (some 7) rfl rfl Tryd.func47 (by kernel_rfl) rfl #[.string a0] rfl (by (try simp only [List.map_toArray, List.map_cons, List.map_nil]); first | done | rfl | (simp only [List.length_drop, List.length_take]; rfl)) ?_; (with_reducible refine (path_Kind.calls a0 t147 t148 _ A2.out).mono ?_); rintro e w5 ⟨rfl, hb⟩; refine ⟨_, rfl, ?_⟩; have n0_ := Aside0.mk (below_step (belU HB.out) hb); clear HB; have HB := n0_; clear n0_; (try clear hb); (try clear hb2); (try clear hk); (try clear hi)))
      go_ret
      exact ⟨by first | rfl | (simp [errW_none, errW_some] <;> rfl) | (simp [*, errW_none, errW_some] <;> rfl), belU HB.out⟩
    · rw [if_neg c4] at H
      have c4b0 : (t147 == 2) = false := beq_eq_false_iff_ne.mpr c4
      have c4b1 : (t147 != 2) = true := bne_iff_ne.mpr c4
      obtain rfl := Option.some.inj H
      go_enter Tryd.func68, Tryd.ntmps68
      go_wp2_with (first | ((with_reducible refine gate_callee (f := 47) rfl ?_); refine goesL_ (some 7) rfl rfl Tryd.func47 (by kernel_rfl) rfl #[.string a0] rfl (by (try simp only [List.map_toArray, List.map_cons, List.map_nil]); first | done | rfl | (simp only [List.length_drop, List.length_take]; rfl)) ?_; (with_reducible refine (path_Kind.calls a0 t147 t148 _ A2.out).mono ?_); rintro e w6 ⟨rfl, hb⟩; refine ⟨_, rfl, ?_⟩; have n0_ := Aside0.mk (below_step (belU HB.out) hb); clear HB; have HB := n0_; clear n0_; (try clear hb); (try clear hb2); (try clear hk); (try clear hi)))
      go_ret
      exact ⟨by first | rfl | (simp [errW_none, errW_some] <;> rfl) | (simp [*, errW_none, errW_some] <;> rfl), belU HB.out⟩
  · rw [if_neg c3] at H
    have c3b0 : (t148 == 0) = false := beq_eq_false_iff_ne.mpr c3
    have c3b1 : (t148 != 0) = true := bne_iff_ne.mpr c3
    obtain rfl := Option.some.inj H
    go_enter Tryd.func68, Tryd.ntmps68
    go_wp2_with (first | ((with_reducible refine gate_callee (f := 47) rfl ?_); refine goesL_ (some 7) rfl rfl Tryd.func47 (by kernel_rfl) rfl #[.string a0] rfl (by (try simp only [List.map_toArray, List.map_cons, List.map_nil]); first | done | rfl | (simp only [List.length_drop, List.length_take]; rfl)) ?_; (with_reducible refine (path_Kind.calls a0 t147 t148 _ A2.out).mono ?_); rintro e w7 ⟨rfl, hb⟩; refine ⟨_, rfl, ?_⟩; have n0_ := Aside0.mk (below_step (belU HB.out) hb); clear HB; have HB := n0_; clear n0_; (try clear hb); (try clear hb2); (try clear hk); (try clear hi)))
    go_ret
    exact ⟨by first | rfl | (simp [errW_none, errW_some] <;> rfl) | (simp [*, errW_none, errW_some] <;> rfl), belU HB.out⟩

end Go.Proofs.YtjllbkeobibnkaaDoor.Q

namespace Go.Proofs.YtjllbkeobibnkaaDoor.Q
open Go.RowKit Go.Proofs.YtjllbkeobibnkaaDoorW.PrintWords Go.Proofs.YtjllbkeobibnkaaDoorW.PrintLast Go.Proofs.YtjllbkeobibnkaaDoorW.PrintMore Go.Proofs.YtjllbkeobibnkaaDoorK
attribute [local go_sem] max2_int min2_int max_two min_two max_three min_three max_four min_four   -- for this text's walks alone
attribute [local go_sem ↓] Go.Proofs.YtjllbkeobibnkaaDoorK.isSome_setCell
set_option linter.unusedVariables false
set_option linter.unusedSimpArgs false

/-! ### scope_May: function 42 -/
def scope_May.l0 : Nat → List ByteArray → List ByteArray → Int → Int → Option (Bool)
  | 0, _, _, _, _ => none
  | k + 1, x0, x5, x6, x7 => if x7 < x6 then (if 0 ≤ x7 then (if x7 < (x5.length : Int) then ((scope_dir.f (rdOf ByteArray.empty x5 x7)).bind fun t150 => (if t150 = 0 then (if x7 > 0 then (if 0 ≤ (wrap64 (x7 - 1)) then (if (wrap64 (x7 - 1)) < (x0.length : Int) then ((path_Compare.f (rdOf ByteArray.empty x0 (wrap64 (x7 - 1))) (rdOf ByteArray.empty x5 x7)).bind fun t152 => (if t152 ≥ 0 then (some false) else ((scope_within.f (rdOf ByteArray.empty x0 (wrap64 (x7 - 1))) (rdOf ByteArray.empty x5 x7)).bind fun t154 => (if t154 = true then (some false) else (scope_May.l0 k x0 x5 x6 (wrap64 (x7 + 1))))))) else (none)) else (none)) else (scope_May.l0 k x0 x5 x6 (wrap64 (x7 + 1)))) else (some false))) else (none)) else (none)) else (some (decide ((x0.length : Int) ≤ 16)))
def scope_May.f (k : Nat) (l0 : List ByteArray) : Option (Bool) := scope_May.l0 k l0 l0 (l0.length : Int) 0
theorem scope_May.mono_l : ∀ k, (∀ y0 y1 y2 y3, LeO (scope_May.l0 k y0 y1 y2 y3) (scope_May.l0 (k + 1) y0 y1 y2 y3))
  | 0 => fun _ _ _ _ r h => by simp [scope_May.l0] at h
  | k + 1 => by
    have ih0 := scope_May.mono_l k
    · intro y0 y1 y2 y3
      unfold scope_May.l0
      repeat' first
      | (with_reducible exact ih0 _ _ _ _)
      | (with_reducible exact LeO.refl _)
      | (with_reducible exact LeO.none _)
      | (with_reducible refine LeO.ite ?_ ?_)
      | (with_reducible refine LeO.bind ?_ (fun _ => ?_))
      | exact ih0 _ _ _ _
      | exact LeO.none _
      | refine LeO.ite ?_ ?_
      | refine LeO.bind ?_ (fun _ => ?_)
theorem scope_May.mono : ∀ a0 k, LeO (scope_May.f k a0) (scope_May.f (k + 1) a0) := by
  intro a0 k
  have ih0 := scope_May.mono_l k
  unfold scope_May.f
  repeat' first
      | (with_reducible exact ih0 _ _ _ _)
      | (with_reducible exact LeO.refl _)
      | (with_reducible exact LeO.none _)
      | (with_reducible refine LeO.ite ?_ ?_)
      | (with_reducible refine LeO.bind ?_ (fun _ => ?_))
      | exact ih0 _ _ _ _
      | exact LeO.none _
      | refine LeO.ite ?_ ?_
      | refine LeO.bind ?_ (fun _ => ?_)
set_option maxHeartbeats 8000000 in
set_option maxRecDepth 100000 in
theorem scope_May.calls (k : Nat) (A0 : Option Addr) (c0 : Nat) (l0 : List ByteArray) (r : Bool) (w : World) (hr0 : Kd.C Kd.string w A0 l0.length l0) (hc0 : l0.length ≤ c0) (h : scope_May.f k l0 = some r) :
    Calls Tryd.prog 42 #[.slice A0 l0.length c0] w fun e w' => e = .returned (.bool r) ∧ Below w.heap.size w w' := by
  have HR0 := Aside0.mk hr0
  have HC0 := Aside0.mk hc0
  clear hr0 hc0
  have HB := Aside0.mk (Below.refl w.heap.size w)
  have H : (scope_May.l0 k l0 l0 (l0.length : Int) 0) = some r := h
  clear h
  have H' := Aside0.mk H
  clear H
  go_enter Tryd.func42, Tryd.ntmps42
  go_wp2
  go_loopg [7] k (fun kq v7 w' => ∃ (x7_1 : Int), v7 = .int .i64 x7_1 ∧ Aside0 (scope_May.l0 kq l0 l0 (l0.length : Int) x7_1 = some r) ∧ Aside0 (kq ≤ k) ∧ Aside0 (Below w.heap.size w w'))
  case atStart => exact ⟨(0), (by first | rfl | (simp; done) | (simp [*]; done)), H', ⟨Nat.le_refl _⟩, ⟨belU HB.out⟩⟩
  case round =>
    clear H'
    obtain ⟨x7_1, rfl, HA, HK1, HB⟩ := hrel
    cases gk with
    | zero => exact absurd HA.out (by simp [scope_May.l0])
    | succ k1 =>
      have H := HA.out
      clear HA
      simp only [scope_May.l0] at H
      by_cases c2 : x7_1 < (l0.length : Int)
      · rw [if_pos c2] at H
        have c2b0 : decide (x7_1 < (l0.length : Int)) = true := decide_eq_true c2
        clear c2
        by_cases c3 : 0 ≤ x7_1
        · rw [if_pos c3] at H
          have c3b0 : decide (0 ≤ x7_1) = true := decide_eq_true c3
          clear c3
          by_cases c4 : x7_1 < (l0.length : Int)
          · rw [if_pos c4] at H
            have c4b0 : decide (x7_1 < (l0.length : Int)) = true := decide_eq_true c4
            clear c4
            replace H := Option.bind_eq_some_iff.mp H
            obtain ⟨t150, A50, H⟩ := H
            replace H : (if t150 = 0 then (if x7_1 > 0 then (if 0 ≤ (wrap64 (x7_1 - 1)) then (if (wrap64 (x7_1 - 1)) < (l0.length : Int) then ((path_Compare.f (rdOf ByteArray.empty l0 (wrap64 (x7_1 - 1))) (rdOf ByteArray.empty l0 x7_1)).bind fun t152 => (if t152 ≥ 0 then (some false) else ((scope_within.f (rdOf ByteArray.empty l0 (wrap64 (x7_1 - 1))) (rdOf ByteArray.empty l0 x7_1)).bind fun t154 => (if t154 = true then (some false) else (scope_May.l0 k1 l0 l0 (l0.length : Int) (wrap64 (x7_1 + 1))))))) else (none)) else (none)) else (scope_May.l0 k1 l0 l0 (l0.length : Int) (wrap64 (x7_1 + 1)))) else (some false)) = some r := H
            have A5 := Aside0.mk A50
            clear A50
            by_cases c6 : t150 = 0
            · rw [if_pos c6] at H
              have c6b0 : (t150 == 0) = true := beq_iff_eq.mpr c6
              have c6b1 : (t150 != 0) = false := bne_eq_false_iff_eq.mpr c6
              clear c6
              by_cases c7 : x7_1 > 0
              · rw [if_pos c7] at H
                have c7b0 : decide (0 < x7_1) = true := decide_eq_true c7
                clear c7
                obtain ⟨ji8, hji8⟩ : ∃ j_ : Int, (wrap64 (x7_1 - 1)) = j_ := ⟨_, rfl⟩
                replace H : (if 0 ≤ (ji8) then (if (ji8) < (l0.length : Int) then ((path_Compare.f (rdOf ByteArray.empty l0 (ji8)) (rdOf ByteArray.empty l0 x7_1)).bind fun t152 => (if t152 ≥ 0 then (some false) else ((scope_within.f (rdOf ByteArray.empty l0 (ji8)) (rdOf ByteArray.empty l0 x7_1)).bind fun t154 => (if t154 = true then (some false) else (scope_May.l0 k1 l0 l0 (l0.length : Int) (wrap64 (x7_1 + 1))))))) else (none)) else (none)) = some r := by first | (rw [hji8] at H; exact H) | (simp only [hji8] at H ⊢; exact H)
                (try rw [hji8] at A5)
                have hji8w : (IntKind.i64.wrap (x7_1 - 1)) = ji8 := (i64_w _).trans hji8
                by_cases c9 : 0 ≤ (ji8)
                · rw [if_pos c9] at H
                  have c9b0 : decide (0 ≤ (ji8)) = true := decide_eq_true c9
                  clear c9
                  by_cases c10 : (ji8) < (l0.length : Int)
                  · rw [if_pos c10] at H
                    have c10b0 : decide ((ji8) < (l0.length : Int)) = true := decide_eq_true c10
                    clear c10
                    replace H := Option.bind_eq_some_iff.mp H
                    obtain ⟨t152, A110, H⟩ := H
                    replace H : (if t152 ≥ 0 then (some false) else ((scope_within.f (rdOf ByteArray.empty l0 (ji8)) (rdOf ByteArray.empty l0 x7_1)).bind fun t154 => (if t154 = true then (some false) else (scope_May.l0 k1 l0 l0 (l0.length : Int) (wrap64 (x7_1 + 1)))))) = some r := H
                    have A11 := Aside0.mk A110
                    clear A110
                    by_cases c12 : t152 ≥ 0
                    · rw [if_pos c12] at H
                      have c12b0 : decide (0 ≤ t152) = true := decide_eq_true c12
                      clear c12
                      obtain rfl := Option.some.inj H
                      have p149 : 0 ≤ (x7_1 : Int) := of_decide_eq_true (by first | (with_reducible assumption) | assumption)
                      have q149 : x7_1 < (l0.length : Int) := of_decide_eq_true (by first | (with_reducible assumption) | assumption)
                      obtain ⟨ad149, e149, hx149_0⟩ := Kd.at_string HR0.out x7_1 p149 q149
                      cases e149
                      replace hx149_0 := (HB.out.cell (World.block_lt_of_cell? w _ hx149_0)).trans hx149_0
                      replace p149 := eq_true p149
                      replace q149 := eq_true q149
                      go_wp2_with (first | ((with_reducible refine gate_callee (f := 68) rfl ?_); refine goesL_ (some 13) rfl rfl Tryd.func68 (by kernel_rfl) rfl #[.string (rdOf ByteArray.empty l0 x7_1)] rfl (by (try simp only [List.map_toArray, List.map_cons, List.map_nil]); first | done | rfl | (simp only [List.length_drop, List.length_take]; rfl)) ?_; (with_reducible refine (scope_dir.calls (rdOf ByteArray.empty l0 x7_1) t150 _ A5.out).mono ?_); rintro e w13 ⟨rfl, hb⟩; refine ⟨_, rfl, ?_⟩; have n0_ := Aside0.mk (below_step (belU HB.out) hb); clear HB; have HB := n0_; clear n0_; (try clear hb); (try clear hb2); (try clear hk); (try clear hi); have p151 : 0 ≤ ((ji8) : Int) := of_decide_eq_true (by first | (with_reducible assumption) | assumption); have q151 : (ji8) < (l0.length : Int) := of_decide_eq_true (by first | (with_reducible assumption) | assumption); obtain ⟨ad151, e151, hx151_0⟩ := Kd.at_string HR0.out (ji8) p151 q151; obtain rfl : ad149 = ad151 := (by injection e151); replace hx151_0 := (HB.out.cell (World.block_lt_of_cell? w _ hx151_0)).trans hx151_0; replace p151 := eq_true p151; replace q151 := eq_true q151) | (go_at_call 61; (with_reducible refine (path_Compare.calls (rdOf ByteArray.empty l0 (ji8)) (rdOf ByteArray.empty l0 x7_1) t152 _ A11.out).mono ?_); rintro e w14 ⟨rfl, hb⟩; have n0_ := Aside0.mk (below_step (belU HB.out) hb); clear HB; have HB := n0_; clear n0_; (try clear hb); (try clear hb2); (try clear hk); (try clear hi)))
                      go_ret
                      exact ⟨by first | rfl | (simp [errW_none, errW_some] <;> rfl) | (simp only [← hji8]; first | rfl | (simp [errW_none, errW_some] <;> rfl)) | (simp [*, errW_none, errW_some] <;> rfl), belU HB.out⟩
                    · rw [if_neg c12] at H
                      have c12b0 : decide (0 ≤ t152) = false := decide_eq_false c12
                      clear c12
                      replace H := Option.bind_eq_some_iff.mp H
                      obtain ⟨t154, A150, H⟩ := H
                      replace H : (if t154 = true then (some false) else (scope_May.l0 k1 l0 l0 (l0.length : Int) (wrap64 (x7_1 + 1)))) = some r := H
                      have A15 := Aside0.mk A150
                      clear A150
                      by_cases c16 : t154 = true
                      · subst c16
                        have H1 : (some false) = some r := by rw [if_pos rfl] at H; exact H
                        clear H
                        have H := H1
                        clear H1
                        obtain rfl := Option.some.inj H
                        have p149 : 0 ≤ (x7_1 : Int) := of_decide_eq_true (by first | (with_reducible assumption) | assumption)
                        have q149 : x7_1 < (l0.length : Int) := of_decide_eq_true (by first | (with_reducible assumption) | assumption)
                        obtain ⟨ad149, e149, hx149_0⟩ := Kd.at_string HR0.out x7_1 p149 q149
                        cases e149
                        replace hx149_0 := (HB.out.cell (World.block_lt_of_cell? w _ hx149_0)).trans hx149_0
                        replace p149 := eq_true p149
                        replace q149 := eq_true q149
                        go_wp2_with (first | ((with_reducible refine gate_callee (f := 68) rfl ?_); refine goesL_ (some 13) rfl rfl Tryd.func68 (by kernel_rfl) rfl #[.string (rdOf ByteArray.empty l0 x7_1)] rfl (by (try simp only [List.map_toArray, List.map_cons, List.map_nil]); first | done | rfl | (simp only [List.length_drop, List.length_take]; rfl)) ?_; (with_reducible refine (scope_dir.calls (rdOf ByteArray.empty l0 x7_1) t150 _ A5.out).mono ?_); rintro e w17 ⟨rfl, hb⟩; refine ⟨_, rfl, ?_⟩; have n0_ := Aside0.mk (below_step (belU HB.out) hb); clear HB; have HB := n0_; clear n0_; (try clear hb); (try clear hb2); (try clear hk); (try clear hi); have p151 : 0 ≤ ((ji8) : Int) := of_decide_eq_true (by first | (with_reducible assumption) | assumption); have q151 : (ji8) < (l0.length : Int) := of_decide_eq_true (by first | (with_reducible assumption) | assumption); obtain ⟨ad151, e151, hx151_0⟩ := Kd.at_string HR0.out (ji8) p151 q151; obtain rfl : ad149 = ad151 := (by injection e151); replace hx151_0 := (HB.out.cell (World.block_lt_of_cell? w _ hx151_0)).trans hx151_0; replace p151 := eq_true p151; replace q151 := eq_true q151) | (go_at_call 61; (with_reducible refine (path_Compare.calls (rdOf ByteArray.empty l0 (ji8)) (rdOf ByteArray.empty l0 x7_1) t152 _ A11.out).mono ?_); rintro e w18 ⟨rfl, hb⟩; have n0_ := Aside0.mk (below_step (belU HB.out) hb); clear HB; have HB := n0_; clear n0_; (try clear hb); (try clear hb2); (try clear hk); (try clear hi); have p153 : 0 ≤ ((ji8) : Int) := of_decide_eq_true (by first | (with_reducible assumption) | assumption); have q153 : (ji8) < (l0.length : Int) := of_decide_eq_true (by first | (with_reducible assumption) | assumption); obtain ⟨ad153, e153, hx153_0⟩ := Kd.at_string HR0.out (ji8) p153 q153; obtain rfl : ad149 = ad153 := (by injection e153); replace hx153_0 := (HB.out.cell (World.block_lt_of_cell? w _ hx153_0)).trans hx153_0; replace p153 := eq_true p153; replace q153 := eq_true q153) | (go_at_call 50; (with_reducible refine (scope_within.calls (rdOf ByteArray.empty l0 (ji8)) (rdOf ByteArray.empty l0 x7_1) true _ A15.out).mono ?_); rintro e w19 ⟨rfl, hb⟩; have n0_ := Aside0.mk (below_step (belU HB.out) hb); clear HB; have HB := n0_; clear n0_; (try clear hb); (try clear hb2); (try clear hk); (try clear hi)))
                        go_ret
                        exact ⟨by first | rfl | (simp [errW_none, errW_some] <;> rfl) | (simp only [← hji8]; first | rfl | (simp [errW_none, errW_some] <;> rfl)) | (simp [*, errW_none, errW_some] <;> rfl), belU HB.out⟩
                      · replace c16 := Bool.eq_false_iff.mpr c16
                        subst c16
                        have H1 : (scope_May.l0 k1 l0 l0 (l0.length : Int) (wrap64 (x7_1 + 1))) = some r := by rw [if_neg (show ¬ (false = true) by decide)] at H; exact H
                        clear H
                        have H := H1
                        clear H1
                        have H' := Aside0.mk H
                        clear H
                        have p149 : 0 ≤ (x7_1 : Int) := of_decide_eq_true (by first | (with_reducible assumption) | assumption)
                        have q149 : x7_1 < (l0.length : Int) := of_decide_eq_true (by first | (with_reducible assumption) | assumption)
                        obtain ⟨ad149, e149, hx149_0⟩ := Kd.at_string HR0.out x7_1 p149 q149
                        cases e149
                        replace hx149_0 := (HB.out.cell (World.block_lt_of_cell? w _ hx149_0)).trans hx149_0
                        replace p149 := eq_true p149
                        replace q149 := eq_true q149
                        go_wp2_with (first | ((with_reducible refine gate_callee (f := 68) rfl ?_); refine goesL_ (some 13) rfl rfl Tryd.func68 (by kernel_rfl) rfl #[.string (rdOf ByteArray.empty l0 x7_1)] rfl (by (try simp only [List.map_toArray, List.map_cons, List.map_nil]); first | done | rfl | (simp only [List.length_drop, List.length_take]; rfl)) ?_; (with_reducible refine (scope_dir.calls (rdOf ByteArray.empty l0 x7_1) t150 _ A5.out).mono ?_); rintro e w20 ⟨rfl, hb⟩; refine ⟨_, rfl, ?_⟩; have n0_ := Aside0.mk (below_step (belU HB.out) hb); clear HB; have HB := n0_; clear n0_; (try clear hb); (try clear hb2); (try clear hk); (try clear hi); have p151 : 0 ≤ ((ji8) : Int) := of_decide_eq_true (by first | (with_reducible assumption) | assumption); have q151 : (ji8) < (l0.length : Int) := of_decide_eq_true (by first | (with_reducible assumption) | assumption); obtain ⟨ad151, e151, hx151_0⟩ := Kd.at_string HR0.out (ji8) p151 q151; obtain rfl : ad149 = ad151 := (by injection e151); replace hx151_0 := (HB.out.cell (World.block_lt_of_cell? w _ hx151_0)).trans hx151_0; replace p151 := eq_true p151; replace q151 := eq_true q151) | (go_at_call 61; (with_reducible refine (path_Compare.calls (rdOf ByteArray.empty l0 (ji8)) (rdOf ByteArray.empty l0 x7_1) t152 _ A11.out).mono ?_); rintro e w21 ⟨rfl, hb⟩; have n0_ := Aside0.mk (below_step (belU HB.out) hb); clear HB; have HB := n0_; clear n0_; (try clear hb); (try clear hb2); (try clear hk); (try clear hi); have p153 : 0 ≤ ((ji8) : Int) := of_decide_eq_true (by first | (with_reducible assumption) | assumption); have q153 : (ji8) < (l0.length : Int) := of_decide_eq_true (by first | (with_reducible assumption) | assumption); obtain ⟨ad153, e153, hx153_0⟩ := Kd.at_string HR0.out (ji8) p153 q153; obtain rfl : ad149 = ad153 := (by injection e153); replace hx153_0 := (HB.out.cell (World.block_lt_of_cell? w _ hx153_0)).trans hx153_0; replace p153 := eq_true p153; replace q153 := eq_true q153) | (go_at_call 50; (with_reducible refine (scope_within.calls (rdOf ByteArray.empty l0 (ji8)) (rdOf ByteArray.empty l0 x7_1) false _ A15.out).mono ?_); rintro e w22 ⟨rfl, hb⟩; have n0_ := Aside0.mk (below_step (belU HB.out) hb); clear HB; have HB := n0_; clear n0_; (try clear hb); (try clear hb2); (try clear hk); (try clear hi)))
                        go_roundg k1
                        case measure => have := HK1.out; omega
                        case rel => exact ⟨(wrap64 (x7_1 + 1)), (by first | rfl | (simp; done) | (simp [*]; done)), H', ⟨by have := HK1.out; omega⟩, ⟨belU HB.out⟩⟩
                  · rw [if_neg c10] at H
                    exact absurd H (by simp)
                · rw [if_neg c9] at H
                  exact absurd H (by simp)
              · rw [if_neg c7] at H
                have c7b0 : decide (0 < x7_1) = false := decide_eq_false c7
                clear c7
                have H' := Aside0.mk H
                clear H
                have p149 : 0 ≤ (x7_1 : Int) := of_decide_eq_true (by first | (with_reducible assumption) | assumption)
                have q149 : x7_1 < (l0.length : Int) := of_decide_eq_true (by first | (with_reducible assumption) | assumption)
                obtain ⟨ad149, e149, hx149_0⟩ := Kd.at_string HR0.out x7_1 p149 q149
                cases e149
                replace hx149_0 := (HB.out.cell (World.block_lt_of_cell? w _ hx149_0)).trans hx149_0
                replace p149 := eq_true p149
                replace q149 := eq_true q149
                go_wp2_with (first | ((with_reducible refine gate_callee (f := 68) rfl ?_); refine goesL_ (some 13) rfl rfl Tryd.func68 (by kernel_rfl) rfl #[.string (rdOf ByteArray.empty l0 x7_1)] rfl (by (try simp only [List.map_toArray, List.map_cons, List.map_nil]); first | done | rfl | (simp only [List.length_drop, List.length_take]; rfl)) ?_; (with_reducible refine (scope_dir.calls (rdOf ByteArray.empty l0 x7_1) t150 _ A5.out).mono ?_); rintro e w23 ⟨rfl, hb⟩; refine ⟨_, rfl, ?_⟩; have n0_ := Aside0.mk (below_step (belU HB.out) hb); clear HB; have HB := n0_; clear n0_; (try clear hb); (try clear hb2); (try clear hk); (try clear hi)))
                go_roundg k1
                case measure => have := HK1.out; omega
                case rel => exact ⟨(wrap64 (x7_1 + 1)), (by first | rfl | (simp; done) | (simp [*]; done)), H', ⟨by have := HK1.out; omega⟩, ⟨belU HB.out⟩⟩
            · rw [if_neg c6] at H
              have c6b0 : (t150 == 0) = false := beq_eq_false_iff_ne.mpr c6
              have c6b1 : (t150 != 0) = true := bne_iff_ne.mpr c6
              obtain rfl := Option.some.inj H
              have p149 : 0 ≤ (x7_1 : Int) := of_decide_eq_true (by first | (with_reducible assumption) | assumption)
              have q149 : x7_1 < (l0.length : Int) := of_decide_eq_true (by first | (with_reducible assumption) | assumption)
              obtain ⟨ad149, e149, hx149_0⟩ := Kd.at_string HR0.out x7_1 p149 q149
              cases e149
              replace hx149_0 := (HB.out.cell (World.block_lt_of_cell? w _ hx149_0)).trans hx149_0
              replace p149 := eq_true p149
              replace q149 := eq_true q149
              go_wp2_with (first | ((with_reducible refine gate_callee (f := 68) rfl ?_); refine goesL_ (some 13) rfl rfl Tryd.func68 (by kernel_rfl) rfl #[.string (rdOf ByteArray.empty l0 x7_1)] rfl (by (try simp only [List.map_toArray, List.map_cons, List.map_nil]); first | done | rfl | (simp only [List.length_drop, List.length_take]; rfl)) ?_; (with_reducible refine (scope_dir.calls (rdOf ByteArray.empty l0 x7_1) t150 _ A5.out).mono ?_); rintro e w24 ⟨rfl, hb⟩; refine ⟨_, rfl, ?_⟩; have n0_ := Aside0.mk (below_step (belU HB.out) hb); clear HB; have HB := n0_; clear n0_; (try clear hb); (try clear hb2); (try clear hk); (try clear hi)))
              go_ret
              exact ⟨by first | rfl | (simp [errW_none, errW_some] <;> rfl) | (simp [*, errW_none, errW_some] <;> rfl), belU HB.out⟩
          · rw [if_neg c4] at H
            exact absurd H (by simp)
        · rw [if_neg c3] at H
          exact absurd H (by simp)
      · rw [if_neg c2] at H
        have c2b0 : decide (x7_1 < (l0.length : Int)) = false := decide_eq_false c2
        clear c2
        obtain rfl := Option.some.inj H
        go_wp2
        go_ret
        exact ⟨by first | rfl | (simp [errW_none, errW_some] <;> rfl) | (simp [*, errW_none, errW_some] <;> rfl), belU HB.out⟩

end Go.Proofs.YtjllbkeobibnkaaDoor.Q

namespace Go.Proofs.YtjllbkeobibnkaaDoor.Q
open Go Go.Proofs Go.Shelf Go.RowKit Go.Lib Go.Sort Go.Proofs.YtjllbkeobibnkaaDoorP Go.Proofs.YtjllbkeobibnkaaDoorK Go.Proofs.YtjllbkeobibnkaaDoorW.PrintWords Go.Proofs.YtjllbkeobibnkaaDoorW.PrintLast Go.Proofs.YtjllbkeobibnkaaDoorW.PrintMore
set_option linter.unusedSimpArgs false
set_option linter.unusedVariables false
/-! ### scope.May: what the printed function computes -/
theorem wr0 (i : Nat) (h : i < 1048577) (h0 : 0 < i) : wrap64 ((i : Int) - 1) = ((i - 1 : Nat) : Int) := by unfold wrap64; omega
theorem tlB (a b : ByteArray) : a.toList = b.toList ↔ a = b := by
  rw [ByteArray.toList_eq, ByteArray.toList_eq]
  exact ⟨fun h => ByteArray.ext (Array.ext' h), fun h => by rw [h]⟩
def dirS (p : ByteArray) : Int := if (kindS p).2 = 0 ∧ (kindS p).1 = 2 then 13 else (kindS p).2
theorem dir_fn {p : ByteArray} (h : p.size ≤ 65536) : scope_dir.f p = some (dirS p) := by
  unfold scope_dir.f path_Kind.f dirS
  rw [if_pos h, Option.bind_some]
  by_cases h1 : (kindS p).2 = 0
  · rw [if_pos h1]
    by_cases h2 : (kindS p).1 = 2
    · rw [if_pos h2, if_pos ⟨h1, h2⟩]
    · rw [if_neg h2, if_neg (fun h => h2 h.2)]
  · rw [if_neg h1, if_neg (fun h => h1 h.1)]
theorem within_fn {d p : ByteArray} (h : p.size ≤ 65536) : scope_within.f d p = some (withinS d p) := by
  unfold scope_within.f path_Below.f withinS
  rw [if_pos h]
  by_cases h1 : p.toList = d.toList
  · rw [if_pos h1, beq_iff_eq.mpr h1]
    rfl
  · rw [if_neg h1, beq_eq_false_iff_ne.mpr h1]
    rfl
def mayA : Option ByteArray → List ByteArray → Bool
  | _, [] => true
  | none, p :: l => dirS p == 0 && mayA (some p) l
  | some q, p :: l => dirS p == 0 && (decide (pcmp q p < 0) && (!withinS q p && mayA (some p) l))
def prevB (l : List ByteArray) (i : Nat) : Option ByteArray := if i = 0 then none else l[i - 1]?
def mayS (l : List ByteArray) : Bool := mayA none l && decide (l.length ≤ 16)
theorem may_loop (l : List ByteArray) (hs : shortP l = true) (d : Nat) : ∀ (i k : Nat), i + d = l.length → d < k → scope_May.l0 k l l (l.length : Int) (i : Int) = some (mayA (prevB l i) (l.drop i) && decide (l.length ≤ 16)) := by
  obtain ⟨hl, hm⟩ := shortP_mem hs
  induction d with
  | zero =>
    intro i k h hk
    obtain ⟨k, rfl⟩ : ∃ q, k = q + 1 := ⟨k - 1, by omega⟩
    unfold scope_May.l0
    rw [if_neg (by omega), List.drop_of_length_le (by omega)]
    have e : mayA (prevB l i) [] = true := by cases prevB l i <;> rfl
    rw [e, Bool.true_and]
    congr 1
    rw [decide_eq_decide]
    omega
  | succ d ih =>
    intro i k h hk
    obtain ⟨k, rfl⟩ : ∃ q, k = q + 1 := ⟨k - 1, by omega⟩
    have hi : i < l.length := by omega
    have hn : prevB l (i + 1) = some l[i] := by unfold prevB; rw [if_neg (by omega)]; simp [hi]
    unfold scope_May.l0
    rw [if_pos (by omega), if_pos (by omega), if_pos (by omega), rdB l i hi, dir_fn (hm _ (List.getElem_mem hi)), Option.bind_some, List.drop_eq_getElem_cons hi, wr1 i (by omega), ih (i + 1) k (by omega) (by omega), hn]
    by_cases h0 : dirS l[i] = 0
    · rw [if_pos h0]
      by_cases hi0 : i = 0
      · subst hi0
        have e : prevB l 0 = none := rfl
        rw [if_neg (by omega), e]
        simp [mayA, h0]
      · have hp : i - 1 < l.length := by omega
        have e : prevB l i = some l[i - 1] := by unfold prevB; rw [if_neg hi0]; simp [hp]
        rw [if_pos (by omega), wr0 i (by omega) (by omega), if_pos (by omega), if_pos (by omega), rdB l (i - 1) hp, e, within_fn (hm _ (List.getElem_mem hi)), Option.bind_some]
        unfold path_Compare.f
        rw [if_pos ⟨hm _ (List.getElem_mem hp), hm _ (List.getElem_mem hi)⟩, Option.bind_some]
        simp only [mayA, h0, beq_self_eq_true, Bool.true_and]
        by_cases hc : pcmp l[i - 1] l[i] < 0
        · rw [if_neg (by omega), decide_eq_true hc, Bool.true_and]
          cases withinS l[i - 1] l[i] <;> simp
        · rw [if_pos (by omega), decide_eq_false hc]
          simp
    · rw [if_neg h0]
      have e : (dirS l[i] == 0) = false := beq_eq_false_iff_ne.mpr h0
      cases prevB l i <;> simp [mayA, e]
theorem may_fn {l : List ByteArray} (hs : shortP l = true) (k : Nat) (hk : l.length < k) : scope_May.f k l = some (mayS l) := by
  have h := may_loop l hs l.length 0 k (by omega) hk
  unfold scope_May.f mayS
  simpa [prevB] using h
theorem may_len {l : List ByteArray} (h : mayS l = true) : l.length ≤ 16 := by
  unfold mayS at h
  simp only [Bool.and_eq_true, decide_eq_true_eq] at h
  exact h.2
theorem may_any (w : World) (A : Option Addr) (c : Nat) (l : List ByteArray) (hC : Kd.C Kd.string w A l.length l) (hc : l.length ≤ c) (hs : shortP l = true) :
    Calls Tryd.prog 42 #[.slice A l.length c] w fun e w' => e = .returned (.bool (mayS l)) ∧ Below w.heap.size w w' :=
  scope_May.calls (l.length + 1) A c l _ w hC hc (may_fn hs _ (by omega))
end Go.Proofs.YtjllbkeobibnkaaDoor.Q

namespace Go.Proofs.YtjllbkeobibnkaaDoor.Q
open Go Go.Proofs Go.Shelf Go.RowKit Go.Proofs.YtjllbkeobibnkaaDoorK Go.Proofs.YtjllbkeobibnkaaDoorW.PrintWords Go.Proofs.YtjllbkeobibnkaaDoorW.PrintLast Go.Proofs.YtjllbkeobibnkaaDoorW.PrintMore
set_option linter.unusedSimpArgs false
set_option linter.unusedVariables false
/-! ### path.decimal -/
/-- Where the first one stands that is no '0'. -/
def idxU : Nat → List UInt8 → Int
  | _, [] => -1
  | i, x :: l => if x = 48 then idxU (i + 1) l else (i : Int)
set_option maxRecDepth 100000 in
theorem dec1_any (w : World) (c : UInt8) : Calls Tryd.prog 92 #[.int .u8 (c.toNat : Int)] w fun e w' => e = .returned (.bool (!decide (c = 48))) ∧ w = w' := by
  have hc : ((c.toNat : Int) != 48) = !decide (c = 48) := by
    by_cases h : c = 48
    · subst h; rfl
    · have : (c.toNat : Int) ≠ 48 := fun e => h (UInt8.toNat_inj.1 (by have : (48 : UInt8).toNat = 48 := rfl; omega))
      rw [bne_iff_ne.mpr this, decide_eq_false h]
      rfl
  rw [← hc]
  clear hc
  go_enter Tryd.func92, Tryd.ntmps92
  go_wp2_with fail
  go_ret
  exact ⟨rfl, rfl⟩
set_option maxRecDepth 100000 in
set_option maxHeartbeats 1000000 in
theorem idxu_any (w : World) (b c : Nat) (l : List UInt8) (hl : l.length ≤ 1048576) (hc : ∀ j (h : j < l.length), w.cell? ⟨b, j, none⟩ = some (.int .u8 (l[j].toNat : Int))) :
    Calls Tryd.prog 91 #[.slice (some ⟨b, 0, none⟩) l.length c, .func (.func 92) #[] #[]] w fun e w' => e = .returned (.int .i64 (idxU 0 l)) ∧ w = w' := by
  have eg : ∀ args w, (callFunc 92 args).run Tryd.prog w = .ok (.enter 92 args) w := enters_of Tryd.func92 (by kernel_rfl) rfl
  have HC := Aside0.mk hc
  have HD := Aside0.mk (fun c => dec1_any w c)
  clear hc
  go_enter Tryd.func91, Tryd.ntmps91
  go_wp2_with fail
  go_loopw [8] (fun i wr => ∃ j : Nat, j ≤ l.length ∧ i = .int .i64 (j : Int) ∧ Aside0 (idxU j (l.drop j) = idxU 0 l) ∧ wr = w) (fun i _ => l.length - (intOf i).toNat)
  case atStart => exact ⟨0, Nat.zero_le _, rfl, ⟨rfl⟩, rfl⟩
  case round =>
    obtain ⟨j, hj, rfl, HI, hw⟩ := hrel
    obtain rfl : w = wr := hw.symm
    by_cases hlt : j < l.length
    · have x0 := HC.out j hlt
      have hI := HI.out
      rw [List.drop_eq_getElem_cons hlt] at hI
      simp only [idxU] at hI
      have hd := HD.out l[j]
      generalize l[j] = x at x0 hI hd
      have HX := Aside0.mk hI
      by_cases hx : x = 48
      · have hI := HX.out
        rw [if_pos hx] at hI
        rw [decide_eq_true hx] at hd
        have HI := Aside0.mk hI
        have HD2 := Aside0.mk hd
        clear hI hx hd HX
        go_wp2_with fail
        refine HD2.out.mono ?_
        rintro e w1 ⟨rfl, rfl⟩
        go_wp2_with fail
        go_roundw
        case rel => exact ⟨j + 1, by omega, by go_num, HI, trivial⟩
        case measure => simp [intOf]; omega
      · have hI := HX.out
        rw [if_neg hx] at hI
        rw [decide_eq_false hx] at hd
        have HI := Aside0.mk hI
        have HD2 := Aside0.mk hd
        clear hI hx hd HX
        go_wp2_with fail
        refine HD2.out.mono ?_
        rintro e w1 ⟨rfl, rfl⟩
        go_wp2_with fail
        go_ret
        exact ⟨by rw [← HI.out]; rfl, rfl⟩
    · have hI := HI.out
      rw [List.drop_of_length_le (by omega)] at hI
      have HI' := Aside0.mk hI
      clear hI HI
      go_wp2_with fail
      go_ret
      exact ⟨by rw [← HI'.out]; rfl, rfl⟩
end Go.Proofs.YtjllbkeobibnkaaDoor.Q

namespace Go.Proofs.YtjllbkeobibnkaaDoor.Q
open Go Go.Proofs Go.Shelf Go.RowKit Go.Proofs.YtjllbkeobibnkaaDoorK Go.Proofs.YtjllbkeobibnkaaDoorW.PrintWords Go.Proofs.YtjllbkeobibnkaaDoorW.PrintLast Go.Proofs.YtjllbkeobibnkaaDoorW.PrintMore
set_option linter.unusedSimpArgs false
set_option linter.unusedVariables false
def digs (n : Nat) : List UInt8 := [UInt8.ofNat (48 + n / 100), UInt8.ofNat (48 + n / 10 % 10), UInt8.ofNat (48 + n % 10)]
theorem u8n (n : Nat) (h : n < 256) : ((UInt8.ofNat n).toNat : Int) = (n : Int) := by
  have h2 : (UInt8.ofNat n).toNat = n := Nat.mod_eq_of_lt h
  rw [h2]
theorem u8ne (n : Nat) (h : n < 256) (e : UInt8.ofNat n = 48) : n = 48 := by
  have h1 := congrArg UInt8.toNat e
  have h2 : (UInt8.ofNat n).toNat = n := Nat.mod_eq_of_lt h
  have h3 : (48 : UInt8).toNat = 48 := rfl
  omega
theorem three (x y z : UInt8) (h : x = 48 → y = 48 → z = 48 → False) : (idxU 0 [x, y, z] = 0 ∧ [x, y, z].dropWhile (· == 48) = [x, y, z]) ∨ (idxU 0 [x, y, z] = 1 ∧ [x, y, z].dropWhile (· == 48) = [y, z]) ∨ (idxU 0 [x, y, z] = 2 ∧ [x, y, z].dropWhile (· == 48) = [z]) := by
  by_cases c0 : x = 48
  · by_cases c1 : y = 48
    · have c2 : ¬ z = 48 := fun c2 => h c0 c1 c2
      have b2 : (z == 48) = false := beq_eq_false_iff_ne.mpr c2
      subst c0 c1
      exact .inr (.inr ⟨by simp [idxU, c2], by simp [List.dropWhile, b2]⟩)
    · have b1 : (y == 48) = false := beq_eq_false_iff_ne.mpr c1
      subst c0
      exact .inr (.inl ⟨by simp [idxU, c1], by simp [List.dropWhile, b1]⟩)
  · have b0 : (x == 48) = false := beq_eq_false_iff_ne.mpr c0
    exact .inl ⟨by simp [idxU, c0], by simp [List.dropWhile, b0]⟩
theorem bstr_event {P : Program} {ops : Array Oper} {rest : List Oper} {o : Oper} {a : Act} {W : World} {Q : Exit → Act → World → Prop} (hgd : o.guard = none) {src dst e : TypeId} {x : Operand} (ho : o.op = .convert src dst x) {ad : Addr} {cap : Nat} (l : List UInt8) (hc : ∀ j (hj : j < l.length), W.cell? (ad.add j) = some (.int .u8 (l[j].toNat : Int))) (hx : a.eval x = .slice (some ad) l.length cap)
    (hs : P.underlying src = some (.slice e)) (he : P.underlying e = some (.int .u8)) (hd : P.underlying dst = some .string)
    (h : wpList P ops Q rest (a.put o.dst (.string ⟨l.toArray⟩)) W) : wpList P ops Q (o :: rest) a W := by
  have hr := run_convert_bytes_back (P := P) W src dst e ad cap l hs he hd hc
  exact Kd.event_run hgd (by unfold execOp; simp only [ho, hx, Sem.run_bind, hr, Result.andThen_ok, Sem.run_pure]) h
/-- The digits of n. -/
def decB (n : Nat) : ByteArray := ⟨((digs n).dropWhile (· == 48)).toArray⟩
set_option maxRecDepth 100000 in
theorem decimal_any (w : World) (n : Nat) (h1 : 1 ≤ n) (h2 : n ≤ 999) : Calls Tryd.prog 78 #[.int .i64 (n : Int)] w fun e w' => e = .returned (.string (decB n)) ∧ Below w.heap.size w w' := by
  obtain ⟨x, hx⟩ : ∃ x, UInt8.ofNat (48 + n / 100) = x := ⟨_, rfl⟩
  obtain ⟨y, hy⟩ : ∃ x, UInt8.ofNat (48 + n / 10 % 10) = x := ⟨_, rfl⟩
  obtain ⟨z, hz⟩ : ∃ x, UInt8.ofNat (48 + n % 10) = x := ⟨_, rfl⟩
  have hdg : digs n = [x, y, z] := by unfold digs; rw [hx, hy, hz]
  have q0 : (x.toNat : Int) = 48 + (n : Int) / 100 := by rw [← hx, u8n _ (by omega)]; omega
  have q1 : (y.toNat : Int) = 48 + (n : Int) / 10 % 10 := by rw [← hy, u8n _ (by omega)]; omega
  have q2 : (z.toNat : Int) = 48 + (n : Int) % 10 := by rw [← hz, u8n _ (by omega)]; omega
  have e0 : x = 48 → 48 + n / 100 = 48 := fun e => u8ne (48 + n / 100) (by omega) (by rw [hx, e])
  have e1 : y = 48 → 48 + n / 10 % 10 = 48 := fun e => u8ne (48 + n / 10 % 10) (by omega) (by rw [hy, e])
  have e2 : z = 48 → 48 + n % 10 = 48 := fun e => u8ne (48 + n % 10) (by omega) (by rw [hz, e])
  have hk : (idxU 0 [x, y, z] = 0 ∧ decB n = ⟨#[x, y, z]⟩) ∨ (idxU 0 [x, y, z] = 1 ∧ decB n = ⟨#[y, z]⟩) ∨ (idxU 0 [x, y, z] = 2 ∧ decB n = ⟨#[z]⟩) := by
    have h3 := three x y z (fun a b c => by have := e0 a; have := e1 b; have := e2 c; omega)
    unfold decB
    rw [hdg]
    rcases h3 with ⟨h, e⟩ | ⟨h, e⟩ | ⟨h, e⟩
    · exact .inl ⟨h, by rw [e]⟩
    · exact .inr (.inl ⟨h, by rw [e]⟩)
    · exact .inr (.inr ⟨h, by rw [e]⟩)
  have HI := Aside0.mk (fun W b c hc => idxu_any W b c [x, y, z] (by simp) hc)
  have HQ := Aside0.mk (And.intro q0 (And.intro q1 q2))
  generalize idxU 0 [x, y, z] = k at HI hk
  have hcells : ∀ (W : World) (b : Nat), W.heap[b]? = some (.cells #[.int .u8 (48 + (n : Int) / 100), .int .u8 (48 + (n : Int) / 10 % 10), .int .u8 (48 + (n : Int) % 10)] 5 (0, 0)) → ∀ j (h : j < [x, y, z].length), W.cell? ⟨b, j, none⟩ = some (.int .u8 ([x, y, z][j].toNat : Int)) := fun W b hb j hj => by
    rw [blk_cell hb]
    have hj3 : j < 3 := hj
    rcases (show j = 0 ∨ j = 1 ∨ j = 2 by omega) with rfl | rfl | rfl
    · show some _ = some (Value.int .u8 (x.toNat : Int)); rw [q0]; rfl
    · show some _ = some (Value.int .u8 (y.toNat : Int)); rw [q1]; rfl
    · show some _ = some (Value.int .u8 (z.toNat : Int)); rw [q2]; rfl
  have HCE := Aside0.mk hcells
  clear hcells e0 e1 e2 q0 q1 q2 hdg hx hy hz
  rcases hk with ⟨rfl, hr⟩ | ⟨rfl, hr⟩ | ⟨rfl, hr⟩
  all_goals
    rw [hr]
    have HR := Aside0.mk hr
    clear hr
    go_enter Tryd.func78, Tryd.ntmps78
    go_wp2_with fail
    refine (HI.out _ _ _ (HCE.out _ _ held)).mono ?_
    rintro e w1 ⟨rfl, hw⟩
    subst hw
  · go_wp2_with (refine bstr_event rfl (src := 121) (dst := 9) (e := 5) rfl [x, y, z] (fun j hj => by rw [Addr.add_lit, Nat.zero_add]; exact HCE.out _ _ held j hj) rfl Tryd.underlying121 Tryd.underlying5 Tryd.underlying9 ?_)
    go_ret
    exact ⟨rfl, bel _ _⟩
  · go_wp2_with (refine bstr_event rfl (src := 121) (dst := 9) (e := 5) rfl [y, z] (fun j hj => by rw [Addr.add_lit, Nat.add_comm]; exact HCE.out _ _ held (j + 1) (Nat.succ_lt_succ hj)) rfl Tryd.underlying121 Tryd.underlying5 Tryd.underlying9 ?_)
    go_ret
    exact ⟨rfl, bel _ _⟩
  · go_wp2_with (refine bstr_event rfl (src := 121) (dst := 9) (e := 5) rfl [z] (fun j hj => by rw [Addr.add_lit, Nat.add_comm]; exact HCE.out _ _ held (j + 2) (Nat.succ_lt_succ (Nat.succ_lt_succ hj))) rfl Tryd.underlying121 Tryd.underlying5 Tryd.underlying9 ?_)
    go_ret
    exact ⟨rfl, bel _ _⟩
end Go.Proofs.YtjllbkeobibnkaaDoor.Q

namespace Go.Proofs.YtjllbkeobibnkaaDoor.Q
open Go.RowKit Go.Proofs.YtjllbkeobibnkaaDoorW.PrintWords Go.Proofs.YtjllbkeobibnkaaDoorW.PrintLast Go.Proofs.YtjllbkeobibnkaaDoorW.PrintMore
attribute [local go_sem] max2_int min2_int max_two min_two max_three min_three max_four min_four   -- for this text's walks alone
attribute [local go_sem ↓] Go.Proofs.YtjllbkeobibnkaaDoorK.isSome_setCell
set_option linter.unusedVariables false
set_option linter.unusedSimpArgs false

/-! ### aquiferref05_decimal: function 80 -/
def aquiferref05_decimal.l0 : Nat → Int → ByteArray → Option (ByteArray)
  | 0, _, _ => none
  | k + 1, x0, x3 => if x0 > 0 then (if 0 ≤ (Int.tmod x0 10) then (if (Int.tmod x0 10) ≤ (wrap64 ((Int.tmod x0 10) + 1)) then (if (wrap64 ((Int.tmod x0 10) + 1)) ≤ 10 then (if ((⟨#[48, 49, 50, 51, 52, 53, 54, 55, 56, 57]⟩ : ByteArray).extract ((Int.tmod x0 10) : Int).toNat ((wrap64 ((Int.tmod x0 10) + 1)) : Int).toNat).size + x3.size ≤ 9223372036854775807 then (aquiferref05_decimal.l0 k (wrap64 (Int.tdiv x0 10)) (((⟨#[48, 49, 50, 51, 52, 53, 54, 55, 56, 57]⟩ : ByteArray).extract ((Int.tmod x0 10) : Int).toNat ((wrap64 ((Int.tmod x0 10) + 1)) : Int).toNat) ++ x3)) else (none)) else (none)) else (none)) else (none)) else (some x3)
def aquiferref05_decimal.f (k : Nat) (a0 : Int) : Option (ByteArray) := aquiferref05_decimal.l0 k a0 (⟨#[]⟩ : ByteArray)
theorem aquiferref05_decimal.mono_l : ∀ k, (∀ y0 y1, LeO (aquiferref05_decimal.l0 k y0 y1) (aquiferref05_decimal.l0 (k + 1) y0 y1))
  | 0 => fun _ _ r h => by simp [aquiferref05_decimal.l0] at h
  | k + 1 => by
    have ih0 := aquiferref05_decimal.mono_l k
    · intro y0 y1
      unfold aquiferref05_decimal.l0
      repeat' first
      | (with_reducible exact ih0 _ _)
      | (with_reducible exact LeO.refl _)
      | (with_reducible exact LeO.none _)
      | (with_reducible refine LeO.ite ?_ ?_)
      | (with_reducible refine LeO.bind ?_ (fun _ => ?_))
      | exact ih0 _ _
      | exact LeO.none _
      | refine LeO.ite ?_ ?_
      | refine LeO.bind ?_ (fun _ => ?_)
theorem aquiferref05_decimal.mono : ∀ a0 k, LeO (aquiferref05_decimal.f k a0) (aquiferref05_decimal.f (k + 1) a0) := by
  intro a0 k
  have ih0 := aquiferref05_decimal.mono_l k
  unfold aquiferref05_decimal.f
  repeat' first
      | (with_reducible exact ih0 _ _)
      | (with_reducible exact LeO.refl _)
      | (with_reducible exact LeO.none _)
      | (with_reducible refine LeO.ite ?_ ?_)
      | (with_reducible refine LeO.bind ?_ (fun _ => ?_))
      | exact ih0 _ _
      | exact LeO.none _
      | refine LeO.ite ?_ ?_
      | refine LeO.bind ?_ (fun _ => ?_)
set_option maxHeartbeats 8000000 in
set_option maxRecDepth 100000 in
theorem aquiferref05_decimal.calls (k : Nat) (a0 : Int) (r : ByteArray) (w : World) (h : aquiferref05_decimal.f k a0 = some r) :
    Calls Tryd.prog 80 #[.int .i64 a0] w fun e w' => e = .returned (.string r) ∧ Drawn0 w w' := by
  have H : (aquiferref05_decimal.l0 k a0 (⟨#[]⟩ : ByteArray)) = some r := h
  clear h
  have H' := Aside0.mk H
  clear H
  go_enter Tryd.func80, Tryd.ntmps80
  go_wp2
  go_loopg [0, 3] k (fun kq v0 v3 w' => ∃ (x0_1 : Int) (x3_1 : ByteArray), v0 = .int .i64 x0_1 ∧ v3 = .string x3_1 ∧ Aside0 (aquiferref05_decimal.l0 kq x0_1 x3_1 = some r) ∧ Aside0 (kq ≤ k) ∧ Drawn0 w w')
  case atStart => exact ⟨(a0), ((⟨#[]⟩ : ByteArray)), (by first | rfl | (simp; done) | (simp [*]; done)), (by first | rfl | (simp; done) | (simp [*]; done)), H', ⟨Nat.le_refl _⟩, by repeat (first | exact Drawn0.refl _ | apply Drawn0.step)⟩
  case round =>
    clear H'
    obtain ⟨x0_1, x3_1, rfl, rfl, HA, HK1, ⟨m1, rfl⟩⟩ := hrel
    cases gk with
    | zero => exact absurd HA.out (by simp [aquiferref05_decimal.l0])
    | succ k1 =>
      have H := HA.out
      clear HA
      simp only [aquiferref05_decimal.l0] at H
      by_cases c2 : x0_1 > 0
      · rw [if_pos c2] at H
        have c2b0 : decide (0 < x0_1) = true := decide_eq_true c2
        clear c2
        obtain ⟨ji3, hji3⟩ : ∃ j_ : Int, (Int.tmod x0_1 10) = j_ := ⟨_, rfl⟩
        replace H : (if 0 ≤ (ji3) then (if (ji3) ≤ (wrap64 ((ji3) + 1)) then (if (wrap64 ((ji3) + 1)) ≤ 10 then (if ((⟨#[48, 49, 50, 51, 52, 53, 54, 55, 56, 57]⟩ : ByteArray).extract ((ji3) : Int).toNat ((wrap64 ((ji3) + 1)) : Int).toNat).size + x3_1.size ≤ 9223372036854775807 then (aquiferref05_decimal.l0 k1 (wrap64 (Int.tdiv x0_1 10)) (((⟨#[48, 49, 50, 51, 52, 53, 54, 55, 56, 57]⟩ : ByteArray).extract ((ji3) : Int).toNat ((wrap64 ((ji3) + 1)) : Int).toNat) ++ x3_1)) else (none)) else (none)) else (none)) else (none)) = some r := by first | (rw [hji3] at H; exact H) | (simp only [hji3] at H ⊢; exact H)
        by_cases c4 : 0 ≤ (ji3)
        · rw [if_pos c4] at H
          have c4b0 := eq_true c4
          have c4b1 : decide (0 ≤ (ji3)) = true := decide_eq_true c4
          clear c4
          by_cases c5 : (ji3) ≤ (wrap64 ((ji3) + 1))
          · rw [if_pos c5] at H
            have c5b0 := eq_true c5
            have c5b1 : decide ((ji3) ≤ (wrap64 ((ji3) + 1))) = true := decide_eq_true c5
            by_cases c6 : (wrap64 ((ji3) + 1)) ≤ 10
            · rw [if_pos c6] at H
              have c6b0 := eq_true c6
              have c6b1 : decide ((wrap64 ((ji3) + 1)) ≤ 10) = true := decide_eq_true c6
              by_cases c7 : ((⟨#[48, 49, 50, 51, 52, 53, 54, 55, 56, 57]⟩ : ByteArray).extract ((ji3) : Int).toNat ((wrap64 ((ji3) + 1)) : Int).toNat).size + x3_1.size ≤ 9223372036854775807
              · rw [if_pos c7] at H
                have c7b0 := eq_true c7
                have c7b1 : decide (((⟨#[48, 49, 50, 51, 52, 53, 54, 55, 56, 57]⟩ : ByteArray).extract ((ji3) : Int).toNat ((wrap64 ((ji3) + 1)) : Int).toNat).size + x3_1.size ≤ 9223372036854775807) = true := decide_eq_true c7
                try have c7b2 : (9223372036854775807 < ((⟨#[48, 49, 50, 51, 52, 53, 54, 55, 56, 57]⟩ : ByteArray).extract ((ji3) : Int).toNat ((wrap64 ((ji3) + 1)) : Int).toNat).size + x3_1.size) = False := eq_false (Nat.not_lt.2 c7)
                have H' := Aside0.mk H
                clear H
                go_wp2
                go_roundg k1
                case measure => have := HK1.out; omega
                case rel => exact ⟨(wrap64 (Int.tdiv x0_1 10)), (((⟨#[48, 49, 50, 51, 52, 53, 54, 55, 56, 57]⟩ : ByteArray).extract ((ji3) : Int).toNat ((wrap64 ((ji3) + 1)) : Int).toNat) ++ x3_1), (by first | rfl | (simp; done) | (simp [*]; done)), (by first | rfl | (simp; done) | (simp only [← hji3] <;> (first | rfl | simp)) | (simp [*]; done)), H', ⟨by have := HK1.out; omega⟩, by repeat (first | exact Drawn0.refl _ | apply Drawn0.step)⟩
              · rw [if_neg c7] at H
                exact absurd H (by simp)
            · rw [if_neg c6] at H
              exact absurd H (by simp)
          · rw [if_neg c5] at H
            exact absurd H (by simp)
        · rw [if_neg c4] at H
          exact absurd H (by simp)
      · rw [if_neg c2] at H
        have c2b0 : decide (0 < x0_1) = false := decide_eq_false c2
        clear c2
        obtain rfl := Option.some.inj H
        go_wp2
        go_ret
        exact ⟨by first | rfl | (simp; done) | (simp [*]; done), by repeat (first | exact Drawn0.refl _ | apply Drawn0.step)⟩

end Go.Proofs.YtjllbkeobibnkaaDoor.Q

namespace Go.Proofs.YtjllbkeobibnkaaDoor.Q
open Go Go.Proofs Go.Shelf Go.RowKit Go.Proofs.YtjllbkeobibnkaaDoorK Go.Proofs.YtjllbkeobibnkaaDoorW.PrintWords Go.Proofs.YtjllbkeobibnkaaDoorW.PrintLast Go.Proofs.YtjllbkeobibnkaaDoorW.PrintMore
/-! ### The document's decimal -/
theorem refdec_all : ∀ n : Fin 1000, 1 ≤ n.val → aquiferref05_decimal.f 12 (n.val : Int) = some (decB n.val) := by decide +kernel
theorem refdec (n : Nat) (h1 : 1 ≤ n) (h2 : n ≤ 999) : aquiferref05_decimal.f 12 (n : Int) = some (decB n) := refdec_all ⟨n, by omega⟩ h1
end Go.Proofs.YtjllbkeobibnkaaDoor.Q

namespace Go.Proofs.YtjllbkeobibnkaaDoor.Q
open Go Go.Proofs Go.RowKit Go.Lib Go.Proofs.YtjllbkeobibnkaaDoorP Go.Proofs.YtjllbkeobibnkaaDoorK
/-! A file's path has a point. Plain: no program here. -/
theorem names_sub (l : List UInt8) : ∀ n ∈ names l, ∀ c ∈ n, c ∈ l := by
  induction l with
  | nil => intro n hn; simp [names] at hn; simp [hn]
  | cons c l ih =>
    intro n hn d hd
    unfold names at hn
    split at hn
    · rcases List.mem_cons.1 hn with e | hn
      · rw [e] at hd; simp at hd
      · exact List.mem_cons_of_mem _ (ih n hn d hd)
    · split at hn
      · rename_i he
        exact absurd he (names_ne l)
      · rename_i m ms he
        rcases List.mem_cons.1 hn with e | hn
        · rw [e] at hd
          rcases List.mem_cons.1 hd with e2 | hd
          · rw [e2]; exact List.mem_cons_self
          · exact List.mem_cons_of_mem _ (ih m (by rw [he]; exact List.mem_cons_self) d hd)
        · exact List.mem_cons_of_mem _ (ih n (by rw [he]; exact List.mem_cons_of_mem _ hn) d hd)
theorem kindL_point (n : List UInt8) (h : kindL n = 2) : 46 ∈ n := by
  apply Classical.byContradiction
  intro hn
  have hi := index_free 46 n hn
  have hc : cut n [46] = (n, [], false) := by unfold cut; rw [hi, if_neg (by decide)]
  unfold kindL at h
  rw [hc] at h
  split at h
  · cases h
  · split at h
    · cases h
    · cases h
theorem kindS_names (p : ByteArray) (h : kindS p = (2, 0)) : p.size ≤ 96 ∧ kindsL (names p.data.toList) 0 = some 2 ∧ (names p.data.toList).length ≤ 8 := by
  unfold kindS at h
  split at h
  · cases h
  · split at h
    · cases h
    · split at h
      · cases h
      · rename_i h1 h2 k hk
        split at h
        · cases h
        · injection h with h3
          subst h3
          exact ⟨by omega, hk, by omega⟩
theorem file_last (p : ByteArray) (h : kindS p = (2, 0)) : ∃ n, (names p.data.toList).getLast? = some n ∧ kindL n = 2 := by
  obtain ⟨_, h1, _⟩ := kindS_names p h
  have h2 := kindsL_last _ _ _ h1
  cases hg : (names p.data.toList).getLast? with
  | none => exact absurd (List.getLast?_eq_none_iff.1 hg) (names_ne _)
  | some n => rw [hg] at h2; exact ⟨n, rfl, h2.symm⟩
theorem file_point (p : ByteArray) (h : kindS p = (2, 0)) : 46 ∈ p.data.toList := by
  obtain ⟨n, h1, h2⟩ := file_last p h
  exact names_sub _ n (List.mem_of_getLast? h1) _ (kindL_point n h2)
theorem last_point (p : ByteArray) (h : kindS p = (2, 0)) : ∃ i : Nat, i < p.size ∧ lastIndexByte p 46 = (i : Int) ∧ ((p.data[i]!).toNat : Int) = 46 ∧ ∀ j, i < j → j < p.size → ((p.data[j]!).toNat : Int) ≠ 46 := by
  rcases lastIndexByte_spec p 46 with ⟨_, hn⟩ | hi
  · obtain ⟨j, hj, he⟩ := List.mem_iff_getElem.1 (file_point p h)
    exfalso
    have hj' : j < p.size := hj
    refine hn j hj' ?_
    rw [getElem!_pos p.data j hj]
    have : p.data[j] = 46 := by rw [← he]; rfl
    rw [this]; rfl
  · exact hi
end Go.Proofs.YtjllbkeobibnkaaDoor.Q

namespace Go.Proofs.YtjllbkeobibnkaaDoor.Q
open Go.RowKit Go.Proofs.YtjllbkeobibnkaaDoorW.PrintWords Go.Proofs.YtjllbkeobibnkaaDoorW.PrintLast Go.Proofs.YtjllbkeobibnkaaDoorW.PrintMore Go.Proofs.YtjllbkeobibnkaaDoorK
attribute [local go_sem] max2_int min2_int max_two min_two max_three min_three max_four min_four   -- for this text's walks alone
attribute [local go_sem ↓] Go.Proofs.YtjllbkeobibnkaaDoorK.isSome_setCell
set_option linter.unusedVariables false
set_option linter.unusedSimpArgs false

/-! ### path_is: function 75 -/
def path_is.f (a0 : ByteArray) (a1 : Int) : Option (Bool) := (path_Kind.f a0).bind fun bt129 => (if bt129.2 = 0 then (if a1 = 0 then (some true) else (some (bt129.1 == a1))) else (some false))
set_option maxHeartbeats 8000000 in
set_option maxRecDepth 100000 in
theorem path_is.calls (a0 : ByteArray) (a1 : Int) (r : Bool) (w : World) (h : path_is.f a0 a1 = some r) :
    Calls Tryd.prog 75 #[.string a0, .int .i64 a1] w fun e w' => e = .returned (.bool r) ∧ Below w.heap.size w w' := by
  have HB := Aside0.mk (Below.refl w.heap.size w)
  have H : ((path_Kind.f a0).bind fun bt129 => (if bt129.2 = 0 then (if a1 = 0 then (some true) else (some (bt129.1 == a1))) else (some false))) = some r := h
  clear h
  replace H := Option.bind_eq_some_iff.mp H
  obtain ⟨⟨t129, t130⟩, A30, H⟩ := H
  replace H : (if t130 = 0 then (if a1 = 0 then (some true) else (some (t129 == a1))) else (some false)) = some r := H
  have A3 := Aside0.mk A30
  clear A30
  by_cases c4 : t130 = 0
  · rw [if_pos c4] at H
    have c4b0 : (t130 == 0) = true := beq_iff_eq.mpr c4
    have c4b1 : (t130 != 0) = false := bne_eq_false_iff_eq.mpr c4
    clear c4
    by_cases c5 : a1 = 0
    · rw [if_pos c5] at H
      have c5b0 : (a1 == 0) = true := beq_iff_eq.mpr c5
      have c5b1 : (a1 != 0) = false := bne_eq_false_iff_eq.mpr c5
      clear c5
      obtain rfl := Option.some.inj H
      go_enter Tryd.func75, Tryd.ntmps75
      go_wp2_with (first | ((with_reducible refine gate_callee (f := 47) rfl ?_); refine goesL_ (some 9) rfl rfl Tryd.func47 (by kernel_rfl) rfl #[.string a0] rfl (by (try simp only [List.map_toArray, List.map_cons, List.map_nil]); first | done | rfl | (simp only [List.length_drop, List.length_take]; rfl)) ?_; (with_reducible refine (path_Kind.calls a0 t129 t130 _ A3.out).mono ?_); rintro e w6 ⟨rfl, hb⟩; refine ⟨_, rfl, ?_⟩; have n0_ := Aside0.mk (below_step (belU HB.out) hb); clear HB; have HB := n0_; clear n0_; (try clear hb); (try clear hb2); (try clear hk); (try clear hi)))
      go_ret
      exact ⟨by first | rfl | (simp [errW_none, errW_some] <;> rfl) | (simp [*, errW_none, errW_some] <;> rfl), belU HB.out⟩
    · rw [if_neg c5] at H
      have c5b0 : (a1 == 0) = false := beq_eq_false_iff_ne.mpr c5
      have c5b1 : (a1 != 0) = true := bne_iff_ne.mpr c5
      obtain rfl := Option.some.inj H
      go_enter Tryd.func75, Tryd.ntmps75
      go_wp2_with (first | ((with_reducible refine gate_callee (f := 47) rfl ?_); refine goesL_ (some 9) rfl rfl Tryd.func47 (by kernel_rfl) rfl #[.string a0] rfl (by (try simp only [List.map_toArray, List.map_cons, List.map_nil]); first | done | rfl | (simp only [List.length_drop, List.length_take]; rfl)) ?_; (with_reducible refine (path_Kind.calls a0 t129 t130 _ A3.out).mono ?_); rintro e w7 ⟨rfl, hb⟩; refine ⟨_, rfl, ?_⟩; have n0_ := Aside0.mk (below_step (belU HB.out) hb); clear HB; have HB := n0_; clear n0_; (try clear hb); (try clear hb2); (try clear hk); (try clear hi)))
      go_ret
      exact ⟨by first | rfl | (simp [errW_none, errW_some] <;> rfl) | (simp [*, errW_none, errW_some] <;> rfl), belU HB.out⟩
  · rw [if_neg c4] at H
    have c4b0 : (t130 == 0) = false := beq_eq_false_iff_ne.mpr c4
    have c4b1 : (t130 != 0) = true := bne_iff_ne.mpr c4
    obtain rfl := Option.some.inj H
    go_enter Tryd.func75, Tryd.ntmps75
    go_wp2_with (first | ((with_reducible refine gate_callee (f := 47) rfl ?_); refine goesL_ (some 9) rfl rfl Tryd.func47 (by kernel_rfl) rfl #[.string a0] rfl (by (try simp only [List.map_toArray, List.map_cons, List.map_nil]); first | done | rfl | (simp only [List.length_drop, List.length_take]; rfl)) ?_; (with_reducible refine (path_Kind.calls a0 t129 t130 _ A3.out).mono ?_); rintro e w8 ⟨rfl, hb⟩; refine ⟨_, rfl, ?_⟩; have n0_ := Aside0.mk (below_step (belU HB.out) hb); clear HB; have HB := n0_; clear n0_; (try clear hb); (try clear hb2); (try clear hk); (try clear hi)))
    go_ret
    exact ⟨by first | rfl | (simp [errW_none, errW_some] <;> rfl) | (simp [*, errW_none, errW_some] <;> rfl), belU HB.out⟩

end Go.Proofs.YtjllbkeobibnkaaDoor.Q

namespace Go.Proofs.YtjllbkeobibnkaaDoor.Q
open Go.RowKit Go.Proofs.YtjllbkeobibnkaaDoorW.PrintWords Go.Proofs.YtjllbkeobibnkaaDoorW.PrintLast Go.Proofs.YtjllbkeobibnkaaDoorW.PrintMore
attribute [local go_sem] max2_int min2_int max_two min_two max_three min_three max_four min_four   -- for this text's walks alone
attribute [local go_sem ↓] Go.Proofs.YtjllbkeobibnkaaDoorK.isSome_setCell
set_option linter.unusedVariables false
set_option linter.unusedSimpArgs false

/-! ### bytealg_LastIndexByteString: function 90 -/
def bytealg_LastIndexByteString.l0 : Nat → ByteArray → Int → Int → Option (Int)
  | 0, _, _, _ => none
  | k + 1, x0, x1, x5 => if x5 ≥ 0 then (if 0 ≤ x5 then (if x5 < (x0.size : Int) then (if (bt x0 x5) = x1 then (some x5) else (bytealg_LastIndexByteString.l0 k x0 x1 (wrap64 (x5 - 1)))) else (none)) else (none)) else (some (-1))
def bytealg_LastIndexByteString.f (k : Nat) (a0 : ByteArray) (a1 : Int) : Option (Int) := bytealg_LastIndexByteString.l0 k a0 a1 (wrap64 ((a0.size : Int) - 1))
theorem bytealg_LastIndexByteString.mono_l : ∀ k, (∀ y0 y1 y2, LeO (bytealg_LastIndexByteString.l0 k y0 y1 y2) (bytealg_LastIndexByteString.l0 (k + 1) y0 y1 y2))
  | 0 => fun _ _ _ r h => by simp [bytealg_LastIndexByteString.l0] at h
  | k + 1 => by
    have ih0 := bytealg_LastIndexByteString.mono_l k
    · intro y0 y1 y2
      unfold bytealg_LastIndexByteString.l0
      repeat' first
      | (with_reducible exact ih0 _ _ _)
      | (with_reducible exact LeO.refl _)
      | (with_reducible exact LeO.none _)
      | (with_reducible refine LeO.ite ?_ ?_)
      | (with_reducible refine LeO.bind ?_ (fun _ => ?_))
      | exact ih0 _ _ _
      | exact LeO.none _
      | refine LeO.ite ?_ ?_
      | refine LeO.bind ?_ (fun _ => ?_)
theorem bytealg_LastIndexByteString.mono : ∀ a0 a1 k, LeO (bytealg_LastIndexByteString.f k a0 a1) (bytealg_LastIndexByteString.f (k + 1) a0 a1) := by
  intro a0 a1 k
  have ih0 := bytealg_LastIndexByteString.mono_l k
  unfold bytealg_LastIndexByteString.f
  repeat' first
      | (with_reducible exact ih0 _ _ _)
      | (with_reducible exact LeO.refl _)
      | (with_reducible exact LeO.none _)
      | (with_reducible refine LeO.ite ?_ ?_)
      | (with_reducible refine LeO.bind ?_ (fun _ => ?_))
      | exact ih0 _ _ _
      | exact LeO.none _
      | refine LeO.ite ?_ ?_
      | refine LeO.bind ?_ (fun _ => ?_)
set_option maxHeartbeats 8000000 in
set_option maxRecDepth 100000 in
theorem bytealg_LastIndexByteString.calls (k : Nat) (a0 : ByteArray) (a1 : Int) (r : Int) (w : World) (h : bytealg_LastIndexByteString.f k a0 a1 = some r) :
    Calls Tryd.prog 90 #[.string a0, .int .u8 a1] w fun e w' => e = .returned (.int .i64 r) ∧ Drawn0 w w' := by
  have H : (bytealg_LastIndexByteString.l0 k a0 a1 (wrap64 ((a0.size : Int) - 1))) = some r := h
  clear h
  have H' := Aside0.mk H
  clear H
  go_enter Tryd.func90, Tryd.ntmps90
  go_wp2
  go_loopg [5] k (fun kq v5 w' => ∃ (x5_1 : Int), v5 = .int .i64 x5_1 ∧ Aside0 (bytealg_LastIndexByteString.l0 kq a0 a1 x5_1 = some r) ∧ Aside0 (kq ≤ k) ∧ Drawn0 w w')
  case atStart => exact ⟨(wrap64 ((a0.size : Int) - 1)), (by first | rfl | (simp; done) | (simp [*]; done)), H', ⟨Nat.le_refl _⟩, by repeat (first | exact Drawn0.refl _ | apply Drawn0.step)⟩
  case round =>
    clear H'
    try clear p2
    obtain ⟨x5_1, rfl, HA, HK1, ⟨m1, rfl⟩⟩ := hrel
    cases gk with
    | zero => exact absurd HA.out (by simp [bytealg_LastIndexByteString.l0])
    | succ k1 =>
      have H := HA.out
      clear HA
      simp only [bytealg_LastIndexByteString.l0] at H
      by_cases c3 : x5_1 ≥ 0
      · rw [if_pos c3] at H
        have c3b0 : decide (0 ≤ x5_1) = true := decide_eq_true c3
        clear c3
        by_cases c4 : 0 ≤ x5_1
        · rw [if_pos c4] at H
          have c4b0 : decide (0 ≤ x5_1) = true := decide_eq_true c4
          clear c4
          by_cases c5 : x5_1 < (a0.size : Int)
          · rw [if_pos c5] at H
            have c5b0 : decide (x5_1 < (a0.size : Int)) = true := decide_eq_true c5
            clear c5
            by_cases c7 : (bt a0 x5_1) = a1
            · rw [if_pos c7] at H
              have c7b0 : ((bt a0 x5_1) == a1) = true := beq_iff_eq.mpr c7
              have c7b1 : ((bt a0 x5_1) != a1) = false := bne_eq_false_iff_eq.mpr c7
              clear c7
              obtain rfl := Option.some.inj H
              have p6 : 0 ≤ (x5_1 : Int) := of_decide_eq_true (by first | (with_reducible assumption) | assumption)
              have q6 : x5_1 < (a0.size : Int) := of_decide_eq_true (by first | (with_reducible assumption) | assumption)
              have hx6 := bt_at a0 x5_1
              replace p6 := eq_true p6
              replace q6 := eq_true q6
              go_wp2
              go_ret
              exact ⟨by first | rfl | (simp; done) | (simp [*]; done), by repeat (first | exact Drawn0.refl _ | apply Drawn0.step)⟩
            · rw [if_neg c7] at H
              have c7b0 : ((bt a0 x5_1) == a1) = false := beq_eq_false_iff_ne.mpr c7
              have c7b1 : ((bt a0 x5_1) != a1) = true := bne_iff_ne.mpr c7
              have H' := Aside0.mk H
              clear H
              have p6 : 0 ≤ (x5_1 : Int) := of_decide_eq_true (by first | (with_reducible assumption) | assumption)
              have q6 : x5_1 < (a0.size : Int) := of_decide_eq_true (by first | (with_reducible assumption) | assumption)
              have hx6 := bt_at a0 x5_1
              replace p6 := eq_true p6
              replace q6 := eq_true q6
              go_wp2
              go_roundg k1
              case measure => have := HK1.out; omega
              case rel => exact ⟨(wrap64 (x5_1 - 1)), (by first | rfl | (simp; done) | (simp [*]; done)), H', ⟨by have := HK1.out; omega⟩, by repeat (first | exact Drawn0.refl _ | apply Drawn0.step)⟩
          · rw [if_neg c5] at H
            exact absurd H (by simp)
        · rw [if_neg c4] at H
          exact absurd H (by simp)
      · rw [if_neg c3] at H
        have c3b0 : decide (0 ≤ x5_1) = false := decide_eq_false c3
        clear c3
        obtain rfl := Option.some.inj H
        go_wp2
        go_ret
        exact ⟨by first | rfl | (simp; done) | (simp [*]; done), by repeat (first | exact Drawn0.refl _ | apply Drawn0.step)⟩

end Go.Proofs.YtjllbkeobibnkaaDoor.Q

namespace Go.Proofs.YtjllbkeobibnkaaDoor.Q
open Go.RowKit Go.Proofs.YtjllbkeobibnkaaDoorW.PrintWords Go.Proofs.YtjllbkeobibnkaaDoorW.PrintLast Go.Proofs.YtjllbkeobibnkaaDoorW.PrintMore
attribute [local go_sem] max2_int min2_int max_two min_two max_three min_three max_four min_four   -- for this text's walks alone
attribute [local go_sem ↓] Go.Proofs.YtjllbkeobibnkaaDoorK.isSome_setCell
set_option linter.unusedVariables false
set_option linter.unusedSimpArgs false

/-! ### strings_LastIndexByte: function 76 -/
def strings_LastIndexByte.f (k : Nat) (a0 : ByteArray) (a1 : Int) : Option (Int) := (bytealg_LastIndexByteString.f k a0 a1).bind fun t131 => (some t131)
theorem strings_LastIndexByte.mono : ∀ a0 a1 k, LeO (strings_LastIndexByte.f k a0 a1) (strings_LastIndexByte.f (k + 1) a0 a1) := by
  intro a0 a1 k
  unfold strings_LastIndexByte.f
  repeat' first
      | (with_reducible exact bytealg_LastIndexByteString.mono _ _ _)
      | (with_reducible exact LeO.refl _)
      | (with_reducible exact LeO.none _)
      | (with_reducible refine LeO.ite ?_ ?_)
      | (with_reducible refine LeO.bind ?_ (fun _ => ?_))
      | exact bytealg_LastIndexByteString.mono _ _ _
      | exact LeO.none _
      | refine LeO.ite ?_ ?_
      | refine LeO.bind ?_ (fun _ => ?_)
set_option maxHeartbeats 8000000 in
set_option maxRecDepth 100000 in
theorem strings_LastIndexByte.calls (k : Nat) (a0 : ByteArray) (a1 : Int) (r : Int) (w : World) (h : strings_LastIndexByte.f k a0 a1 = some r) :
    Calls Tryd.prog 76 #[.string a0, .int .u8 a1] w fun e w' => e = .returned (.int .i64 r) ∧ Drawn0 w w' := by
  have H : ((bytealg_LastIndexByteString.f k a0 a1).bind fun t131 => (some t131)) = some r := h
  clear h
  replace H := Option.bind_eq_some_iff.mp H
  obtain ⟨t131, A30, H⟩ := H
  replace H : (some t131) = some r := H
  have A3 := Aside0.mk A30
  clear A30
  obtain rfl := Option.some.inj H
  go_enter Tryd.func76, Tryd.ntmps76
  go_wp2_with (first | ((with_reducible refine gate_callee (f := 90) rfl ?_); refine goesL_ (some 7) rfl rfl Tryd.func90 (by kernel_rfl) rfl #[.string a0, .int .u8 a1] rfl (by (try simp only [List.map_toArray, List.map_cons, List.map_nil]); first | done | rfl | (simp only [List.length_drop, List.length_take]; rfl)) ?_; (with_reducible refine (bytealg_LastIndexByteString.calls k a0 a1 t131 _ A3.out).mono ?_); rintro e w' ⟨rfl, ⟨nd, rfl⟩⟩; refine ⟨_, rfl, ?_⟩))
  go_ret
  exact ⟨by first | rfl | (simp; done) | (simp [*]; done), by repeat (first | exact Drawn0.refl _ | apply Drawn0.step)⟩

end Go.Proofs.YtjllbkeobibnkaaDoor.Q

namespace Go.Proofs.YtjllbkeobibnkaaDoor.Q
open Go.RowKit Go.Proofs.YtjllbkeobibnkaaDoorW.PrintWords Go.Proofs.YtjllbkeobibnkaaDoorW.PrintLast Go.Proofs.YtjllbkeobibnkaaDoorW.PrintMore Go.Proofs.YtjllbkeobibnkaaDoorK
attribute [local go_sem] max2_int min2_int max_two min_two max_three min_three max_four min_four   -- for this text's walks alone
attribute [local go_sem ↓] Go.Proofs.YtjllbkeobibnkaaDoorK.isSome_setCell
set_option linter.unusedVariables false
set_option linter.unusedSimpArgs false

/-! ### path_sure: function 77 -/
def path_sure.f (a0 : ByteArray) : Option (ByteArray × Int) := (path_Kind.f a0).bind fun bt132 => (if bt132.2 = 0 then (some (a0, 0)) else (some ((⟨#[]⟩ : ByteArray), bt132.2)))
set_option maxHeartbeats 8000000 in
set_option maxRecDepth 100000 in
theorem path_sure.calls (a0 : ByteArray) (r1 : ByteArray) (r2 : Int) (w : World) (h : path_sure.f a0 = some (r1, r2)) :
    Calls Tryd.prog 77 #[.string a0] w fun e w' => e = .returned (.tuple #[.string r1, .int .i64 r2]) ∧ Below w.heap.size w w' := by
  have HB := Aside0.mk (Below.refl w.heap.size w)
  have H : ((path_Kind.f a0).bind fun bt132 => (if bt132.2 = 0 then (some (a0, 0)) else (some ((⟨#[]⟩ : ByteArray), bt132.2)))) = some (r1, r2) := h
  clear h
  replace H := Option.bind_eq_some_iff.mp H
  obtain ⟨⟨t132, t133⟩, A20, H⟩ := H
  replace H : (if t133 = 0 then (some (a0, 0)) else (some ((⟨#[]⟩ : ByteArray), t133))) = some (r1, r2) := H
  have A2 := Aside0.mk A20
  clear A20
  by_cases c3 : t133 = 0
  · rw [if_pos c3] at H
    have c3b0 : (t133 == 0) = true := beq_iff_eq.mpr c3
    have c3b1 : (t133 != 0) = false := bne_eq_false_iff_eq.mpr c3
    clear c3
    simp only [Option.some.injEq, Prod.mk.injEq] at H
    obtain ⟨rfl, rfl⟩ := H
    go_enter Tryd.func77, Tryd.ntmps77
    go_wp2_with (first | ((with_reducible refine gate_callee (f := 47) rfl ?_); refine goesL_ (some 8) rfl rfl Tryd.func47 (by kernel_rfl) rfl #[.string a0] rfl (by (try simp only [List.map_toArray, List.map_cons, List.map_nil]); first | done | rfl | (simp only [List.length_drop, List.length_take]; rfl)) ?_; (with_reducible refine (path_Kind.calls a0 t132 t133 _ A2.out).mono ?_); rintro e w4 ⟨rfl, hb⟩; refine ⟨_, rfl, ?_⟩; have n0_ := Aside0.mk (below_step (belU HB.out) hb); clear HB; have HB := n0_; clear n0_; (try clear hb); (try clear hb2); (try clear hk); (try clear hi)))
    go_ret2
    exact ⟨by first | rfl | (simp [errW_none, errW_some] <;> rfl) | (simp [*, errW_none, errW_some] <;> rfl), belU HB.out⟩
  · rw [if_neg c3] at H
    have c3b0 : (t133 == 0) = false := beq_eq_false_iff_ne.mpr c3
    have c3b1 : (t133 != 0) = true := bne_iff_ne.mpr c3
    simp only [Option.some.injEq, Prod.mk.injEq] at H
    obtain ⟨rfl, rfl⟩ := H
    go_enter Tryd.func77, Tryd.ntmps77
    go_wp2_with (first | ((with_reducible refine gate_callee (f := 47) rfl ?_); refine goesL_ (some 8) rfl rfl Tryd.func47 (by kernel_rfl) rfl #[.string a0] rfl (by (try simp only [List.map_toArray, List.map_cons, List.map_nil]); first | done | rfl | (simp only [List.length_drop, List.length_take]; rfl)) ?_; (with_reducible refine (path_Kind.calls a0 t132 t133 _ A2.out).mono ?_); rintro e w5 ⟨rfl, hb⟩; refine ⟨_, rfl, ?_⟩; have n0_ := Aside0.mk (below_step (belU HB.out) hb); clear HB; have HB := n0_; clear n0_; (try clear hb); (try clear hb2); (try clear hk); (try clear hi)))
    go_ret2
    exact ⟨by first | rfl | (simp [errW_none, errW_some] <;> rfl) | (simp [*, errW_none, errW_some] <;> rfl), belU HB.out⟩

end Go.Proofs.YtjllbkeobibnkaaDoor.Q

namespace Go.Proofs.YtjllbkeobibnkaaDoor.Q
open Go Go.Proofs Go.Shelf Go.RowKit Go.Lib Go.Proofs.YtjllbkeobibnkaaDoorP Go.Proofs.YtjllbkeobibnkaaDoorK Go.Proofs.YtjllbkeobibnkaaDoorW.PrintWords Go.Proofs.YtjllbkeobibnkaaDoorW.PrintLast Go.Proofs.YtjllbkeobibnkaaDoorW.PrintMore
set_option linter.unusedSimpArgs false
set_option linter.unusedVariables false
/-! ### path.Copy -/
/-- The name of a copy. -/
def cpName (p : ByteArray) (n : Nat) : ByteArray := p.extract 0 (lastIndexByte p 46).toNat ++ ⟨#[126]⟩ ++ decB n ++ p.extract (lastIndexByte p 46).toNat p.size
def cpK (p : ByteArray) (n : Nat) : ByteArray × Int := if kindS p = (2, 0) then (if (kindS (cpName p n)).2 = 0 then (cpName p n, 0) else (⟨#[]⟩, (kindS (cpName p n)).2)) else (⟨#[]⟩, 2)
theorem dec_size (n : Nat) : (decB n).size ≤ 3 := by
  show ((digs n).dropWhile (· == 48)).toArray.size ≤ 3
  rw [List.size_toArray]
  exact (List.dropWhile_sublist _).length_le
theorem cp_size (p : ByteArray) (n : Nat) : (cpName p n).size ≤ 2 * p.size + 4 := by
  have := dec_size n
  unfold cpName
  rw [ByteArray.size_append, ByteArray.size_append, ByteArray.size_append, ByteArray.size_extract, ByteArray.size_extract]
  have h1 : (⟨#[126]⟩ : ByteArray).size = 1 := rfl
  omega
theorem is2_any (w : World) (p : ByteArray) (hp : p.size ≤ 65536) : Calls Tryd.prog 75 #[.string p, .int .i64 2] w fun e w' => e = .returned (.bool (decide (kindS p = (2, 0)))) ∧ Below w.heap.size w w' := by
  refine path_is.calls p 2 _ w ?_
  unfold path_is.f path_Kind.f
  rw [if_pos hp, Option.bind_some]
  generalize kindS p = r
  obtain ⟨k, e⟩ := r
  by_cases h : e = 0
  · subst h
    rw [if_pos rfl, if_neg (by decide)]
    by_cases h2 : k = 2
    · subst h2; rfl
    · rw [decide_eq_false (fun e2 => h2 (by injection e2)), beq_eq_false_iff_ne.mpr h2]
  · rw [if_neg h, decide_eq_false (fun e2 => h (by injection e2))]
set_option maxRecDepth 100000 in
set_option maxHeartbeats 2000000 in
theorem pcopy_any (p : ByteArray) (hp : p.size ≤ 32000) : ∀ W (n : Nat), 1 ≤ n → n ≤ 999 → Calls Tryd.prog 56 #[.string p, .int .i64 (n : Int)] W fun e w' => e = .returned (.tuple #[.string (cpK p n).1, .int .i64 (cpK p n).2]) ∧ Below W.heap.size W w' := by
  intro w n h1 h2
  have HI := Aside0.mk (fun W => is2_any W p (by omega))
  unfold cpK
  by_cases hk : kindS p = (2, 0)
  · rw [if_pos hk]
    have hz : 0 ≤ lastIndexByte p 46 ∧ lastIndexByte p 46 ≤ (p.size : Int) := by
      obtain ⟨i, h1, h2, _⟩ := last_point p hk
      rw [h2]; omega
    have hsz : (cpName p n).size ≤ 65536 := by have := cp_size p n; omega
    have hks := fun W => Kind_any W (cpName p n) hsz
    have hsu : ∀ W, Calls Tryd.prog 77 #[.string (cpName p n)] W fun e w' => e = .returned (.tuple #[.string (if (kindS (cpName p n)).2 = 0 then (cpName p n, 0) else (⟨#[]⟩, (kindS (cpName p n)).2)).1, .int .i64 (if (kindS (cpName p n)).2 = 0 then (cpName p n, (0 : Int)) else (⟨#[]⟩, (kindS (cpName p n)).2)).2]) ∧ Below W.heap.size W w' := fun W => by
      refine path_sure.calls (cpName p n) _ _ W ?_
      unfold path_sure.f path_Kind.f
      rw [if_pos hsz, Option.bind_some]
      split <;> rfl
    generalize (if (kindS (cpName p n)).2 = 0 then (cpName p n, (0 : Int)) else (⟨#[]⟩, (kindS (cpName p n)).2)) = u at hsu ⊢
    have hli := fun W => Any.strings_LastIndexByte layLastIdx p 46 (by omega) W
    change ∀ W, Calls Tryd.prog 76 _ W _ at hli
    have hde := fun W => decimal_any W n h1 h2
    have HS := Aside0.mk hsu
    have HL := Aside0.mk hli
    have HD := Aside0.mk hde
    rw [decide_eq_true hk] at HI
    clear hk hks hsu hli hde hsz
    go_enter Tryd.func56, Tryd.ntmps56
    go_wp2_with fail
    refine (HI.out _).mono ?_
    rintro r1 w1 ⟨rfl, hb⟩
    have p1 := prev_call hb
    clear hb
    go_wp2_with fail
    refine (HL.out _).mono ?_
    rintro r2 w2 ⟨rfl, hw2⟩
    subst hw2
    obtain ⟨z, hzz⟩ : ∃ z : Nat, lastIndexByte p 46 = (z : Int) := ⟨(lastIndexByte p 46).toNat, by omega⟩
    have hcn : cpName p n = p.extract 0 z ++ ⟨#[126]⟩ ++ decB n ++ p.extract z p.size := by unfold cpName; rw [hzz]; rfl
    rw [hzz] at hz ⊢
    have hz2 : z ≤ p.size := by omega
    clear hz
    go_wp2_with fail
    have hdz := dec_size n
    have b1 : ¬ (9223372036854775807 < z + 1) := by omega
    have b2 : ¬ (9223372036854775807 < z + 1 + (decB n).size) := by omega
    have b3 : ¬ (9223372036854775807 < z + 1 + (decB n).size + (p.size - z)) := by omega
    go_region_held3 (fun _ => True) (first | exact trivial)
      (first | (go_at_call 78; refine (HD.out _).mono ?_; rintro r3 w3 ⟨rfl, hb⟩; have p3 := prev_call hb; clear hb) | (go_at_call 77; rw [← hcn]; refine (HS.out _).mono ?_; rintro r4 w4 ⟨rfl, hb⟩; have p4 := prev_call hb; clear hb))
    go_wp2_with fail
    go_ret2
    exact ⟨rfl, bel _ _⟩
  · rw [if_neg hk]
    rw [decide_eq_false hk] at HI
    clear hk
    go_enter Tryd.func56, Tryd.ntmps56
    go_wp2_with fail
    refine (HI.out _).mono ?_
    rintro r1 w1 ⟨rfl, hb⟩
    have p1 := prev_call hb
    clear hb
    go_wp2_with fail
    go_ret2
    exact ⟨rfl, bel _ _⟩
end Go.Proofs.YtjllbkeobibnkaaDoor.Q

namespace Go.Proofs.YtjllbkeobibnkaaDoor.Q
open Go Go.Proofs Go.Shelf Go.RowKit Go.Lib Go.Sort Go.Proofs.YtjllbkeobibnkaaDoorP Go.Proofs.YtjllbkeobibnkaaDoorK Go.Proofs.YtjllbkeobibnkaaDoorW.PrintWords Go.Proofs.YtjllbkeobibnkaaDoorW.PrintLast Go.Proofs.YtjllbkeobibnkaaDoorW.PrintMore
set_option linter.unusedSimpArgs false
set_option linter.unusedVariables false
/-! ### merge.Plan: what it computes; what is kept by a loop that writes one elder box -/
def planStep (s : S24) (inn : List ByteArray) (st : List S33 × List ByteArray) (p : ByteArray) : List S33 × List ByteArray :=
  if hasS inn p = false then st
  else if (stepS (atS s p) p).f0 = 7 then
    (if (freeN (cpK p) (takenS s st.2) 999 1).2 = true then (st.1 ++ [{ stepS (atS s p) p with f3 := (freeN (cpK p) (takenS s st.2) 999 1).1 }, ⟨1, 0, (freeN (cpK p) (takenS s st.2) 999 1).1, eB⟩], st.2 ++ [(freeN (cpK p) (takenS s st.2) 999 1).1])
     else (st.1 ++ [⟨8, (stepS (atS s p) p).f1, p, eB⟩], st.2))
  else if (stepS (atS s p) p).f0 = 0 then st
  else (st.1 ++ [stepS (atS s p) p], st.2)
def planF (s : S24) (inn : List ByteArray) : List S33 × List ByteArray := (pathsS s).foldl (planStep s inn) ([], [])
def planS (s : S24) (inn : List ByteArray) : List S33 × Int := if checkS s = 0 ∧ mayS inn = true then ((planF s inn).1, 0) else ([], 2)
theorem stepS_zero (x : S65) (p : ByteArray) : (stepS x p).f0 = 0 → stepS x p = z33 := by
  unfold stepS
  split
  all_goals (try (split))
  all_goals first
    | exact fun _ => rfl
    | (intro h; simp at h)
instance : Go.Proofs.YtjllbkeobibnkaaDoorK.NotIn 41 (9 :: Kd.string.E) := ⟨by decide⟩
instance : Go.Proofs.YtjllbkeobibnkaaDoorK.NotIn 33 (9 :: Kd.string.E) := ⟨by decide⟩
instance : Go.Proofs.YtjllbkeobibnkaaDoorK.NotIn 24 (9 :: Kd.string.E) := ⟨by decide⟩
instance : Go.Proofs.YtjllbkeobibnkaaDoorK.NotIn 41 (33 :: k33.E) := ⟨by decide⟩
instance : Go.Proofs.YtjllbkeobibnkaaDoorK.NotIn 24 (33 :: k33.E) := ⟨by decide⟩
theorem paths_len {s : S24} (h : tinyS s = true) : (pathsS s).length ≤ 3000 := by
  obtain ⟨t1, t2, t3⟩ := tinyS_open h
  unfold pathsS
  have a := mergeL_len (mergeL (pathsK s.f0) (pathsK s.f1)) (pathsK s.f2)
  have b := mergeL_len (pathsK s.f0) (pathsK s.f1)
  have a1 := (fewK_open t1).1
  have a2 := (fewK_open t2).1
  have a3 := (fewK_open t3).1
  unfold pathsK at a b ⊢
  simp only [List.length_map] at a b ⊢
  omega
theorem paths_sz {s : S24} (h : tinyS s = true) : ∀ p ∈ pathsS s, p.size ≤ 32000 := by
  obtain ⟨t1, t2, t3⟩ := tinyS_open h
  intro p hp
  unfold pathsS at hp
  rcases mergeL_mem _ _ p hp with hp | hp
  · rcases mergeL_mem _ _ p hp with hp | hp
    · obtain ⟨k, hk, rfl⟩ := List.mem_map.1 hp
      exact (fewK_open t1).2 k hk
    · obtain ⟨k, hk, rfl⟩ := List.mem_map.1 hp
      exact (fewK_open t2).2 k hk
  · obtain ⟨k, hk, rfl⟩ := List.mem_map.1 hp
    exact (fewK_open t3).2 k hk
end Go.Proofs.YtjllbkeobibnkaaDoor.Q

namespace Go.Proofs.YtjllbkeobibnkaaDoor.Q
open Go Go.Proofs Go.Shelf Go.RowKit Go.Lib Go.Sort Go.Proofs.YtjllbkeobibnkaaDoorP Go.Proofs.YtjllbkeobibnkaaDoorK
/-! ### The chapter's example -/
def sumB (b : UInt8) : Sum := ⟨b :: List.replicate 31 0, rfl⟩
def axB : ByteArray := ⟨#[97, 46, 120]⟩
def ax1B : ByteArray := ⟨#[97, 126, 49, 46, 120]⟩
def wkS : S24 := ⟨[⟨axB, ⟨1, 0, sumB 1⟩⟩], [⟨axB, ⟨0, 0, sumB 2⟩⟩], [⟨axB, ⟨2, 0, sumB 3⟩⟩]⟩
theorem tl_loop (b : ByteArray) : b.toList = b.data.toList := ByteArray.toList_eq b
theorem wk_kind : kindS axB = (2, 0) := by decide +kernel
theorem wk_eq (k : S58) (p : ByteArray) : eqP p k = (k.f0.data.toList == p.data.toList) := by unfold eqP; rw [tl_loop, tl_loop]
theorem wk_check : checkS wkS = 0 := by
  unfold checkS
  rw [if_pos (by decide +kernel)]
  rw [if_neg]
  simp [wkS, badK, findS, wk_eq]
theorem wk_may : mayS [eB] = true := by decide +kernel
theorem wk_paths : pathsS wkS = [axB] := by decide +kernel
theorem wk_has : hasS [eB] axB = true := by decide +kernel
theorem wk_find (v : Int) (b : UInt8) : findS [⟨axB, ⟨v, 0, sumB b⟩⟩] axB = (⟨v, 0, sumB b⟩, true) := by
  unfold findS
  rw [if_pos (by rw [wk_eq]; simp)]
theorem wk_at : atS wkS axB = ⟨⟨1, 0, sumB 1⟩, ⟨0, 0, sumB 2⟩, ⟨2, 0, sumB 3⟩, true, true, true, true, true⟩ := by
  unfold atS wkS
  simp only [wk_find]
  rfl
theorem wk_step : stepS (atS wkS axB) axB = ⟨7, 2, axB, eB⟩ := by
  rw [wk_at]
  rfl
theorem wk_no (v : Int) (b : UInt8) : findS [⟨axB, ⟨v, 0, sumB b⟩⟩] ax1B = (z51, false) := by
  unfold findS
  rw [if_neg (by rw [wk_eq]; exact (by decide +kernel : ¬ (axB.data.toList == ax1B.data.toList) = true))]
  rfl
theorem wk_taken : takenS wkS [] ax1B = false := by
  unfold takenS hasK atS wkS
  simp only [wk_no]
  rfl
theorem wk_cp : cpK axB 1 = (ax1B, 0) := by
  have h1 : cpName axB 1 = ax1B := by decide +kernel
  unfold cpK
  rw [if_pos wk_kind, h1, if_pos (by decide +kernel)]
theorem wk_free : freeN (cpK axB) (takenS wkS []) 999 1 = (ax1B, true) := by
  unfold freeN
  rw [wk_cp]
  rw [if_pos ⟨rfl, wk_taken⟩]
theorem wk_plan : planS wkS [eB] = ([⟨7, 2, axB, ax1B⟩, ⟨1, 0, ax1B, eB⟩], 0) := by
  unfold planS
  rw [if_pos ⟨wk_check, wk_may⟩]
  unfold planF
  rw [wk_paths]
  simp only [List.foldl_cons, List.foldl_nil]
  unfold planStep
  rw [if_neg (by rw [wk_has]; decide), wk_step]
  simp only [wk_free]
  rfl
theorem wk_tiny : tinyS wkS = true := by decide +kernel
theorem wk_short : shortP [eB] = true := by decide +kernel
end Go.Proofs.YtjllbkeobibnkaaDoor.Q

namespace Go.Proofs.YtjllbkeobibnkaaDoor.Q
open Go Go.Proofs Go.Shelf Go.RowKit Go.Lib Go.Sort Go.Proofs.YtjllbkeobibnkaaDoorP Go.Proofs.YtjllbkeobibnkaaDoorK Go.Proofs.YtjllbkeobibnkaaDoorW.PrintWords Go.Proofs.YtjllbkeobibnkaaDoorW.PrintLast Go.Proofs.YtjllbkeobibnkaaDoorW.PrintMore
set_option linter.unusedSimpArgs false
set_option linter.unusedVariables false
/-! ### merge.Plan -/
attribute [local go_sem] A51_size A51_0 A51_1 A51_g0 A51_g1 A58_size A58_0 A58_1 A58_2 A58_g0 A58_g1 A58_g2 cell_held frozen_held
attribute [local go_sem] zero51 zero58 zero65 set58 laid58 A33 z33 eB
attribute [local go_sem ↓ high] lvx_of
attribute [local go_sem] lv_sc lv24 lv33
attribute [local go_sem ↓ high] lv51 lv51s lv58 lv58a lv65 lv65a lv65l lv65r sc51 sc58 sc65 sc65a sc65l sc65r sc58a
set_option maxRecDepth 100000 in
set_option maxHeartbeats 4000000 in
theorem plan_any (w : World) (s : S24) (v : Array Value) (A0 : Option Addr) (c0 : Nat) (inn : List ByteArray) (hs : SideIn w s v) (ht : tinyS s = true) (hi : Kd.C Kd.string w A0 inn.length inn) (hic : inn.length ≤ c0) (hsh : shortP inn = true) :
    Calls Tryd.prog 18 #[.agg v, .slice A0 inn.length c0] w fun e w' => ∃ v, e = .returned (.tuple #[v, .int .i64 (planS s inn).2]) ∧ k33.R 33 w' w.heap.size (fun _ => True) v (planS s inn).1 ∧ Below w.heap.size w w' := by
  have eg : ∀ args w, (callFunc 45 args).run Tryd.prog w = .ok (.enter 45 args) w := enters_of Tryd.func45 (by kernel_rfl) rfl
  have hin := (shortP_mem hsh).1
  have HK := Aside0.mk (fun W (hb : Below w.heap.size w W) => Check_any W s v (hs.below hb) (tinyS_ok ht))
  have HM := Aside0.mk (fun W (hb : Below w.heap.size w W) => may_any W A0 c0 inn (Kd.C_below hi hb) hic hsh)
  have HP := Aside0.mk (fun W (hb : Below w.heap.size w W) => paths_any W s v (hs.below hb) ht)
  have HH := Aside0.mk (fun W p (hb : Below w.heap.size w W) hp => Has_any W A0 c0 inn p (Kd.C_below hi hb) hin hp)
  have HA := Aside0.mk (fun W p (hb : Below w.heap.size w W) => at_any W s v p (hs.below hb) (okS_short (tinyS_ok ht)))
  have HF := Aside0.mk (fun W p b b2 A cc ch (hb : Below w.heap.size w W) h h2 hC hl hp => free_any W p 45 #[.pointer (some ⟨b, 0, none⟩), .pointer (some ⟨b2, 0, none⟩)] eg (cpK p) (takenS s ch) (plan1_any W s v b b2 A cc ch (hs.below hb) (tinyS_ok ht) h h2 hC hl) (pcopy_any p hp))
  have hpl := paths_len ht
  have HPZ := Aside0.mk (paths_sz ht)
  have h02 := checkS_two s
  obtain ⟨R, hR⟩ : ∃ R, planF s inn = R := ⟨_, rfl⟩
  unfold planS
  rw [hR]
  unfold planF at hR
  obtain ⟨A, c, B, d, C, e, rfl, l1, l2, l3, h1, h2, h3⟩ := hs.out
  clear hs ht l1 l2 l3 h1 h2 h3 eg hi hsh
  generalize s.f0.length = n0 at *
  generalize s.f1.length = n1 at *
  generalize s.f2.length = n2 at *
  generalize pathsS s = l at *
  generalize checkS s = k at *
  generalize mayS inn = my at *
  have HR0 := Aside0.mk hR
  clear hR
  rcases h02 with rfl | rfl
  rotate_left
  · rw [if_neg (fun h => absurd h.1 (by decide))]
    go_enter Tryd.func18, Tryd.ntmps18
    go_wp2_with fail
    refine (HK.out _ (bel _ _)).mono ?_
    rintro r1 w1 ⟨rfl, hb⟩
    have p1 := prev_call hb
    clear hb
    go_wp2_with fail
    go_ret2
    exact ⟨_, rfl, Kd.R_nil _ _ _ _ _, bel _ _⟩
  cases my with
  | false =>
    rw [if_neg (fun h => absurd h.2 (by decide))]
    go_enter Tryd.func18, Tryd.ntmps18
    go_wp2_with fail
    refine (HK.out _ (bel _ _)).mono ?_
    rintro r1 w1 ⟨rfl, hb⟩
    have p1 := prev_call hb
    clear hb
    go_wp2_with fail
    refine (HM.out _ (bel _ _)).mono ?_
    rintro r2 w2 ⟨rfl, hb⟩
    have p2 := prev_call hb
    clear hb
    go_wp2_with fail
    go_ret2
    exact ⟨_, rfl, Kd.R_nil _ _ _ _ _, bel _ _⟩
  | true =>
    rw [if_pos ⟨rfl, rfl⟩]
    go_enter Tryd.func18, Tryd.ntmps18
    go_wp2_with fail
    refine (HK.out _ (bel _ _)).mono ?_
    rintro r1 w1 ⟨rfl, hb⟩
    have p1 := prev_call hb
    clear hb
    go_wp2_with fail
    refine (HM.out _ (bel _ _)).mono ?_
    rintro r2 w2 ⟨rfl, hb⟩
    have p2 := prev_call hb
    clear hb
    go_wp2_with fail
    refine (HP.out _ (bel _ _)).mono ?_
    rintro r3 w3 ⟨v3, rfl, hv, hb⟩
    have p3 := prev_call hb
    have s2 := siz w w2
    obtain ⟨A3, c3, rfl⟩ := Kd.R_slice hv
    have hv := Kd.R_lower hv (Nat.le_refl _)
    have HV3 := Aside0.mk hv
    clear hb hv
    go_wp2_with fail
    have hnb : ∀ ad, A3 = some ad → 0 < l.length → ad.block ≠ w2.heap.size := by
      rintro ad rfl h0 e
      have := Kd.R_base hv ad.block (by simp [Value.ownBlock])
      rw [World.size_alloc] at this
      omega
    have HNB := Aside0.mk hnb
    have s3 : w2.heap.size < w3.heap.size := held_lt (W := w3) (g := w2.heap.size)
    clear hv hnb
    go_loopw [6, 24] (fun u i wr => ∃ (j : Nat) (out : List S33) (ch : List ByteArray) (Ac : Option Addr) (cc : Nat), j ≤ l.length ∧ i = .int .i64 (j : Int) ∧ Aside0 ((l.drop j).foldl (planStep s inn) (out, ch) = R) ∧ out.length ≤ 2 * j ∧ ch.length ≤ j ∧ Aside0 (k33.R 33 wr w3.heap.size (fun _ => True) u out) ∧ Aside0 (Go.Proofs.YtjllbkeobibnkaaDoorK.Holds wr w2.heap.size (.cells #[.slice Ac ch.length cc] 41)) ∧ Aside0 (Go.Proofs.YtjllbkeobibnkaaDoorK.Holds wr w.heap.size (.cells #[.slice A n0 c, .slice B n1 d, .slice C n2 e] 24)) ∧ Aside0 (Kd.string.R 9 wr w3.heap.size (fun _ => True) (.slice Ac ch.length cc) ch) ∧ Aside0 (Below w.heap.size w wr) ∧ Aside0 (Go.Proofs.YtjllbkeobibnkaaDoorK.Kp w3.heap.size w2.heap.size w3 wr)) (fun _ i _ => l.length - (intOf i).toNat)
    case atStart => exact ⟨0, [], [], none, 0, Nat.zero_le _, rfl, HR0, Nat.le_refl _, Nat.le_refl _, ⟨Kd.R_nil _ _ _ _ _⟩, ⟨inferInstance⟩, ⟨inferInstance⟩, ⟨Kd.R_nil _ _ _ _ _⟩, ⟨bel _ _⟩, ⟨inferInstance⟩⟩
    case round =>
      obtain ⟨j, out, ch, Ac, cc, hj, rfl, HI, hol, hcl, HO, HG, HX, HC, HB, HKP⟩ := hrel
      have bw : Bel w.heap.size w wr := ⟨fun _ => HB.out⟩
      have kp := HKP.out
      have hg := HG.out
      have hx := HX.out
      clear HR0
      by_cases hlt : j < l.length
      · obtain ⟨ad, e0, x0⟩ := C_str' (Kd.R_reads' HV3.out).2.2 j hlt
        subst e0
        have hnb := HNB.out ad rfl (by omega)
        replace x0 := kp.cell rfl x0 (by rw [show (ad.add j).block = ad.block by unfold Addr.add; split <;> rfl]; exact hnb)
        have hI := HI.out
        rw [List.drop_eq_getElem_cons hlt, List.foldl_cons] at hI
        have hps := HPZ.out _ (List.getElem_mem hlt)
        generalize l[j] = p at x0 hI hps
        have HHP := Aside0.mk (fun W hb => HH.out W p hb (by omega))
        have HPS := Aside0.mk hps
        have HII := Aside0.mk hI
        clear hI HI hps
        cases hb : hasS inn p with
        | false =>
          have hI := HII.out
          unfold planStep at hI
          rw [if_pos hb] at hI
          have HIN : Aside0 ((l.drop (j + 1)).foldl (planStep s inn) (out, ch) = R) := ⟨hI⟩
          rw [hb] at HHP
          clear hI hb
          go_wp2_with fail
          refine (HHP.out _ (bel _ _)).mono ?_
          rintro r4 w4 ⟨rfl, hb⟩
          have p4 := prev_call hb
          clear hb
          go_wp2_with fail
          go_roundw
          case rel => exact ⟨j + 1, out, ch, Ac, cc, by omega, by go_num, HIN, by omega, by omega, ⟨rowB HO.out (bel wr _)⟩, ⟨inferInstance⟩, ⟨inferInstance⟩, ⟨rowB HC.out (bel wr _)⟩, ⟨bel _ _⟩, ⟨inferInstance⟩⟩
          case measure => simp [intOf]; omega
        | true =>
          have hI := HII.out
          unfold planStep at hI
          rw [if_neg (by rw [hb]; decide)] at hI
          dsimp only at hI
          have HIP := Aside0.mk hI
          rw [hb] at HHP
          have hz := stepS_zero (atS s p) p
          have HAP := Aside0.mk (fun W hb => HA.out W p hb)
          have HST := Aside0.mk (fun W => step_any W (atS s p) p)
          generalize stepS (atS s p) p = x at HST HIP hz
          generalize atS s p = y at HAP HST
          have HZ := Aside0.mk hz
          clear hI hb hz HII
          go_wp2_with fail
          refine (HHP.out _ (bel _ _)).mono ?_
          rintro r4 w4 ⟨rfl, hb⟩
          have p4 := prev_call hb
          clear hb
          go_wp2_with fail
          refine (HAP.out _ (bel _ _)).mono ?_
          rintro r5 w5 ⟨rfl, hb⟩
          have p5 := prev_call hb
          clear hb
          go_wp2_with fail
          refine (HST.out _).mono ?_
          rintro r6 w6 ⟨rfl, hb⟩
          have p6 := prev_call hb
          have s6 : w3.heap.size ≤ w6.heap.size := ((inferInstance : Go.Proofs.YtjllbkeobibnkaaDoorK.Kp w3.heap.size w2.heap.size w3 w6).out (Nat.le_refl _)).1
          have s7 := siz w w3
          have s8 := siz wr w6
          clear hb
          have a1 : Apart w.heap.size (.row w6.heap.size) := apart_ne (by omega)
          have a2 : Apart w2.heap.size (.row w6.heap.size) := apart_ne (by omega)
          have a3 : OwnB w.heap.size (.row w6.heap.size) := own_row (by omega)
          have a4 : OwnB wr.heap.size (.row w6.heap.size) := own_row (by omega)
          have a5 : OwnB w3.heap.size (.row w6.heap.size) := own_row (by omega)
          have s9 : w3.heap.size ≤ wr.heap.size := (kp.out (Nat.le_refl _)).1
          have s10 : w.heap.size < w2.heap.size := held_lt (W := w2) (g := w.heap.size)
          have a6 : Apart w.heap.size (.row w2.heap.size) := apart_ne (by omega)
          have a8 : Apart w6.heap.size (.row w2.heap.size) := apart_ne (by omega)
          have a7 : OwnB w.heap.size (.row w2.heap.size) := own_row (by omega)
          have z9 : Go.Proofs.YtjllbkeobibnkaaDoorK.Size w3.heap.size wr := ⟨s9⟩
          obtain ⟨Ao, co, ho⟩ := Kd.R_slice HO.out
          subst ho
          by_cases h7 : x.f0 = 7
          · have hI := HIP.out
            rw [if_pos h7] at hI
            have HI7 := Aside0.mk hI
            have h7b : (x.f0 != 7) = false := by rw [h7]; rfl
            have HFP := Aside0.mk (fun W b b2 A cc hb h h2 hC => HF.out W p b b2 A cc ch hb h h2 hC (by omega) HPS.out)
            generalize freeN (cpK p) (takenS s ch) 999 1 = q at HFP HI7
            obtain ⟨tq, ok⟩ := q
            dsimp only at HFP HI7
            clear hI HIP h7
            go_wp2_with fail
            refine (HFP.out _ _ _ _ _ (bel _ _) held held (Kd.R_reads' (rowX HC.out)).2.2).mono ?_
            rintro r7 w7 ⟨rfl, hb⟩
            have p7 := prev_call hb
            clear hb
            cases ok with
            | false =>
              have hI := HI7.out
              rw [if_neg (by decide)] at hI
              have HIN : Aside0 ((l.drop (j + 1)).foldl (planStep s inn) (out ++ [⟨8, x.f1, p, eB⟩], ch) = R) := ⟨hI⟩
              clear hI HI7
              go_wp2_with ((with_reducible refine gate_builtin (b := .append) (xs := #[.tmp 55, .tmp 60]) rfl ?_); at_builtin; refine put33 w3.heap.size rfl (.tmp 55) (.tmp 60) rfl (.slice Ao out.length co) out ⟨8, x.f1, p, eB⟩ rfl ?aX ?aO ?aS ?aL ?_; (case aX => first | rfl | (simp only [World.size_setCell, size_setRow, World.size_alloc]; rfl)); (case aO => exact rowX HO.out); (case aS => exact (inferInstance : Go.Proofs.YtjllbkeobibnkaaDoorK.Size w3.heap.size _).out); (case aL => omega); intro v8 w8 h8 hg8 hat8; have p8 := prev_grown hg8; have n8a := noRow_g (L := 9 :: Kd.string.E) hg8 (rowX HO.out) (by decide); have n8b := apart_g (g := w.heap.size) (t := 24) hg8 (rowX HO.out) (by decide); have n8c := apart_g (g := w2.heap.size) (t := 41) hg8 (rowX HO.out) (by decide); have n8d := ownB_g hg8 (rowX HO.out) (Nat.le_refl w3.heap.size); have n8e := ownB_g (b := w.heap.size) hg8 (rowX HO.out) (by omega); have HV8 := Aside0.mk h8; clear h8 hg8 hat8)
              go_roundw
              case rel => exact ⟨j + 1, _, ch, Ac, cc, by omega, by go_num, HIN, by simp only [List.length_append, List.length_singleton]; omega, by omega, HV8, ⟨inferInstance⟩, ⟨inferInstance⟩, ⟨rowX HC.out⟩, ⟨bel _ _⟩, ⟨inferInstance⟩⟩
              case measure => simp [intOf]; omega
            | true =>
              have hI := HI7.out
              rw [if_pos rfl] at hI
              have HIN : Aside0 ((l.drop (j + 1)).foldl (planStep s inn) (out ++ [⟨x.f0, x.f1, x.f2, tq⟩, ⟨1, 0, tq, eB⟩], ch ++ [tq]) = R) := ⟨hI⟩
              clear hI HI7
              go_wp2_with (first
                | ((with_reducible refine gate_builtin (b := .append) (xs := #[.tmp 62, .tmp 64]) rfl ?_); at_builtin; refine put41 w3.heap.size rfl (.tmp 62) (.tmp 64) rfl (.slice Ac ch.length cc) ch tq rfl ?aX ?aO ?aS ?aL ?_; (case aX => first | rfl | (simp only [World.size_setCell, size_setRow, World.size_alloc]; rfl)); (case aO => exact rowX HC.out); (case aS => exact (inferInstance : Go.Proofs.YtjllbkeobibnkaaDoorK.Size w3.heap.size _).out); (case aL => omega); intro v8 w8 h8 hg8 hat8; have p8 := prev_grown hg8; have n8a := noRow_g (L := 33 :: k33.E) hg8 (rowX HC.out) (by decide); have n8b := apart_g (g := w.heap.size) (t := 24) hg8 (rowX HC.out) (by decide); have n8c := apart_g (g := w2.heap.size) (t := 41) hg8 (rowX HC.out) (by decide); have n8f := apart_g (g := w6.heap.size) (t := 33) hg8 (rowX HC.out) (by decide); have n8d := ownB_g hg8 (rowX HC.out) (Nat.le_refl w3.heap.size); have n8e := ownB_g (b := w.heap.size) hg8 (rowX HC.out) (by omega); have n8g := ownB_g (b := w2.heap.size) hg8 (rowX HC.out) (by omega); obtain ⟨A8, c8, e8⟩ := Kd.R_slice h8; subst e8; have HV8 := Aside0.mk h8; clear h8 hg8 hat8)
                | ((with_reducible refine gate_builtin (b := .append) (xs := #[.tmp 68, .tmp 72]) rfl ?_); at_builtin; refine put33two w3.heap.size rfl (.tmp 68) (.tmp 72) rfl (.slice Ao out.length co) out ⟨x.f0, x.f1, x.f2, tq⟩ ⟨1, 0, tq, eB⟩ rfl ?aX ?aO ?aS ?aL ?_; (case aX => first | rfl | (simp only [World.size_setCell, size_setRow, World.size_alloc]; rfl)); (case aO => exact rowX HO.out); (case aS => exact (inferInstance : Go.Proofs.YtjllbkeobibnkaaDoorK.Size w3.heap.size _).out); (case aL => omega); intro v9 w9 h9 hg9 hat9; have p9 := prev_grown hg9; have n9a := noRow_g (L := 9 :: Kd.string.E) hg9 (rowX HO.out) (by decide); have n9b := apart_g (g := w.heap.size) (t := 24) hg9 (rowX HO.out) (by decide); have n9c := apart_g (g := w2.heap.size) (t := 41) hg9 (rowX HO.out) (by decide); have n9d := ownB_g hg9 (rowX HO.out) (Nat.le_refl w3.heap.size); have n9e := ownB_g (b := w.heap.size) hg9 (rowX HO.out) (by omega); have HV9 := Aside0.mk h9; clear h9 hg9 hat9))
              have hq : (ch ++ [tq]).length = ch.length + 1 := by simp
              go_roundw
              case rel => exact ⟨j + 1, _, ch ++ [tq], A8, c8, by omega, by go_num, HIN, by simp only [List.length_append, List.length_cons, List.length_nil]; omega, by omega, HV9, ⟨by rw [hq]; exact inferInstance⟩, ⟨inferInstance⟩, ⟨rowX HV8.out⟩, ⟨bel _ _⟩, ⟨inferInstance⟩⟩
              case measure => simp [intOf]; omega
          · have hI := HIP.out
            rw [if_neg h7] at hI
            have HI7 := Aside0.mk hI
            have h7b : (x.f0 != 7) = true := bne_iff_ne.mpr h7
            clear hI HIP h7
            by_cases h0 : x.f0 = 0
            · have hI := HI7.out
              rw [if_pos h0] at hI
              have HIN : Aside0 ((l.drop (j + 1)).foldl (planStep s inn) (out, ch) = R) := ⟨hI⟩
              have hx := HZ.out h0
              subst hx
              clear hI HI7 h0 h7b
              go_wp2_with fail
              go_roundw
              case rel => exact ⟨j + 1, out, ch, Ac, cc, by omega, by go_num, HIN, by omega, by omega, ⟨rowX HO.out⟩, ⟨inferInstance⟩, ⟨inferInstance⟩, ⟨rowX HC.out⟩, ⟨bel _ _⟩, ⟨inferInstance⟩⟩
              case measure => simp [intOf]; omega
            · have hI := HI7.out
              rw [if_neg h0] at hI
              have HIN : Aside0 ((l.drop (j + 1)).foldl (planStep s inn) (out ++ [x], ch) = R) := ⟨hI⟩
              have h0b : (x.f0 != 0) = true := bne_iff_ne.mpr h0
              have h0c : (x.f0 == 0) = false := beq_eq_false_iff_ne.mpr h0
              clear hI HI7 h0
              go_wp2_with ((with_reducible refine gate_builtin (b := .append) (xs := #[.tmp 43, .tmp 45]) rfl ?_); at_builtin; refine put33 w3.heap.size rfl (.tmp 43) (.tmp 45) rfl (.slice Ao out.length co) out x rfl ?aX ?aO ?aS ?aL ?_; (case aX => first | rfl | (simp only [World.size_setCell, size_setRow, World.size_alloc]; rfl)); (case aO => exact rowX HO.out); (case aS => exact (inferInstance : Go.Proofs.YtjllbkeobibnkaaDoorK.Size w3.heap.size _).out); (case aL => omega); intro v8 w8 h8 hg8 hat8; have p8 := prev_grown hg8; have n8a := noRow_g (L := 9 :: Kd.string.E) hg8 (rowX HO.out) (by decide); have n8b := apart_g (g := w.heap.size) (t := 24) hg8 (rowX HO.out) (by decide); have n8c := apart_g (g := w2.heap.size) (t := 41) hg8 (rowX HO.out) (by decide); have n8d := ownB_g hg8 (rowX HO.out) (Nat.le_refl w3.heap.size); have n8e := ownB_g (b := w.heap.size) hg8 (rowX HO.out) (by omega); have HV8 := Aside0.mk h8; clear h8 hg8 hat8)
              go_roundw
              case rel => exact ⟨j + 1, _, ch, Ac, cc, by omega, by go_num, HIN, by simp only [List.length_append, List.length_singleton]; omega, by omega, HV8, ⟨inferInstance⟩, ⟨inferInstance⟩, ⟨rowX HC.out⟩, ⟨bel _ _⟩, ⟨inferInstance⟩⟩
              case measure => simp [intOf]; omega
      · have hI := HI.out
        rw [List.drop_of_length_le (by omega)] at hI
        simp only [List.foldl_nil] at hI
        have HIE := Aside0.mk hI
        clear hI HI
        go_wp2_with fail
        go_ret2
        exact ⟨_, rfl, Kd.R_lower (by rw [← HIE.out]; exact HO.out) (siz w w3), bel _ _⟩
end Go.Proofs.YtjllbkeobibnkaaDoor.Q

namespace Go.Proofs.YtjllbkeobibnkaaDoor.Q
open Go Go.Proofs Go.Shelf Go.RowKit Go.Lib Go.Sort Go.Proofs.YtjllbkeobibnkaaDoorP Go.Proofs.YtjllbkeobibnkaaDoorK Go.Proofs.YtjllbkeobibnkaaDoorW.PrintWords Go.Proofs.YtjllbkeobibnkaaDoorW.PrintLast Go.Proofs.YtjllbkeobibnkaaDoorW.PrintMore
set_option linter.unusedSimpArgs false
set_option linter.unusedVariables false
/-! ### The law's works: its lists -/
theorem one58 {W : World} (p : S58) (cs : Array Value) (hcs : cs = A58 p) : k58.C (W.alloc (.cells cs 58)) (some ⟨W.heap.size, 0, none⟩) 1 [p] := by
  subst hcs
  refine ⟨rfl, by decide, fun _ => ⟨_, rfl, fun j x hj => ?_⟩⟩
  have hb := blk_new W (.cells (A58 p) 58)
  obtain rfl : j = 0 := by
    have := (List.getElem?_eq_some_iff.1 hj).1
    simp at this
    omega
  obtain rfl : p = x := by simpa using hj
  refine ⟨L58 p, L58_len p, rfl, fun i u hi => ?_⟩
  rw [Nat.zero_mul, Nat.zero_add, Addr.add_lit, Nat.zero_add, blk_cell hb]
  unfold A58
  simpa using hi
set_option maxRecDepth 100000 in
set_option maxHeartbeats 4000000 in
theorem works1_any (w : World) (v : Int) (b : UInt8) : Calls Tryd.prog 33 #[.int .i64 v, .int .u8 (b.toNat : Int)] w fun e w' => ∃ ad, e = .returned (.slice (some ad) 1 1) ∧ k58.C w' (some ad) 1 [⟨axB, ⟨v, 0, sumB b⟩⟩] ∧ Below w.heap.size w w' := by
  go_enter Tryd.func33, Tryd.ntmps33
  go_wp2_with fail
  go_ret
  exact ⟨_, rfl, one58 _ _ rfl, bel _ _⟩
end Go.Proofs.YtjllbkeobibnkaaDoor.Q

namespace Go.Proofs.YtjllbkeobibnkaaDoor.Q
open Go Go.Proofs Go.Shelf Go.RowKit Go.Lib Go.Sort Go.Proofs.YtjllbkeobibnkaaDoorP Go.Proofs.YtjllbkeobibnkaaDoorK Go.Proofs.YtjllbkeobibnkaaDoorW.PrintWords Go.Proofs.YtjllbkeobibnkaaDoorW.PrintLast Go.Proofs.YtjllbkeobibnkaaDoorW.PrintMore
set_option linter.unusedSimpArgs false
set_option linter.unusedVariables false
/-! ### The law's works -/
theorem str1 {W : World} {g : Nat} {p : ByteArray} (h : W.heap[g]? = some (.cells #[.string p] 9 (0, 0))) : Kd.string.C W (some ⟨g, 0, none⟩) 1 [p] := by
  refine ⟨rfl, by decide, fun _ => ⟨_, rfl, fun j x hj => ?_⟩⟩
  obtain rfl : j = 0 := by
    have := (List.getElem?_eq_some_iff.1 hj).1
    simp at this
    omega
  obtain rfl : p = x := by simpa using hj
  refine ⟨[.string p], rfl, rfl, fun i u hi => ?_⟩
  rw [Nat.zero_mul, Nat.zero_add, Addr.add_lit, Nat.zero_add, blk_cell h]
  cases i with
  | zero => exact hi
  | succ i => simp at hi
theorem wk_side {W : World} {d1 d2 d3 : Addr} (h1 : k58.C W (some d1) 1 [⟨axB, ⟨1, 0, sumB 1⟩⟩]) (h2 : k58.C W (some d2) 1 [⟨axB, ⟨0, 0, sumB 2⟩⟩]) (h3 : k58.C W (some d3) 1 [⟨axB, ⟨2, 0, sumB 3⟩⟩]) : SideIn W wkS #[.slice (some d1) 1 1, .slice (some d2) 1 1, .slice (some d3) 1 1] :=
  ⟨⟨_, _, _, _, _, _, rfl, Nat.le_refl _, Nat.le_refl _, Nat.le_refl _, h1, h2, h3⟩⟩
attribute [local go_sem] cell_held frozen_held
set_option maxRecDepth 100000 in
set_option maxHeartbeats 4000000 in
theorem works_any (w : World) : Calls Tryd.prog 13 #[] w fun e w' => e = .returned (.bool true) ∧ Below w.heap.size w w' := by
  have eg : ∀ args w, (callFunc 33 args).run Tryd.prog w = .ok (.enter 33 args) w := enters_of Tryd.func33 (by kernel_rfl) rfl
  have HW := Aside0.mk (fun W v b => works1_any W v b)
  have HP := Aside0.mk (fun W d1 d2 d3 g (h1 : k58.C W (some d1) 1 [⟨axB, ⟨1, 0, sumB 1⟩⟩]) (h2 : k58.C W (some d2) 1 [⟨axB, ⟨0, 0, sumB 2⟩⟩]) (h3 : k58.C W (some d3) 1 [⟨axB, ⟨2, 0, sumB 3⟩⟩]) (h4 : Kd.string.C W (some ⟨g, 0, none⟩) 1 [eB]) => plan_any W wkS _ (some ⟨g, 0, none⟩) 1 [eB] (wk_side h1 h2 h3) wk_tiny h4 (Nat.le_refl _) wk_short)
  rw [wk_plan] at HP
  go_enter Tryd.func13, Tryd.ntmps13
  go_wp2_with fail
  refine (HW.out _ 1 1).mono ?_
  rintro e1 w1 ⟨d1, rfl, hc, hb⟩
  have p1 := prev_call hb
  have HC1 := Aside0.mk hc
  clear hb hc
  go_wp2_with fail
  refine (HW.out _ 0 2).mono ?_
  rintro e2 w2 ⟨d2, rfl, hc, hb⟩
  have p2 := prev_call hb
  have HC2 := Aside0.mk hc
  clear hb hc
  go_wp2_with fail
  refine (HW.out _ 2 3).mono ?_
  rintro e3 w3 ⟨d3, rfl, hc, hb⟩
  have p3 := prev_call hb
  have HC3 := Aside0.mk hc
  clear hb hc
  go_wp2_with fail
  refine (HP.out _ _ _ _ _ (Kd.C_below HC1.out (bel _ _)) (Kd.C_below HC2.out (bel _ _)) (Kd.C_below HC3.out (bel _ _)) (str1 held)).mono ?_
  rintro e4 w4 ⟨v, rfl, hv, hb⟩
  have p4 := prev_call hb
  obtain ⟨X, cx, rfl⟩ := Kd.R_slice hv
  have hr := (Kd.R_reads' hv).2.2
  obtain ⟨ad, ea, x0⟩ := C33_at hr 0 (by decide)
  obtain ⟨ad2, eb, x1⟩ := C33_at hr 1 (by decide)
  obtain rfl : ad = ad2 := Option.some.inj (ea.symm.trans eb)
  subst ea
  rw [Nat.zero_mul, add_zero_] at x0
  rw [Addr.add_succ' ad 3] at x1
  obtain ⟨a0, a1, a2, a3⟩ := at33 x0
  obtain ⟨b0, b1, b2, b3⟩ := at33 x1
  simp only [List.getElem_cons_zero, List.getElem_cons_succ] at a0 a1 a2 a3 b0 b1 b2 b3
  simp only [axB, ax1B, eB] at a2 a3 b2 b3
  clear hb hv hr eb x0 x1
  go_wp2_with fail
  go_ret
  exact ⟨rfl, bel _ _⟩
end Go.Proofs.YtjllbkeobibnkaaDoor.Q

namespace Go.Proofs.YtjllbkeobibnkaaDoor.Q
open Go.RowKit Go.Proofs.YtjllbkeobibnkaaDoorW.PrintWords Go.Proofs.YtjllbkeobibnkaaDoorW.PrintLast Go.Proofs.YtjllbkeobibnkaaDoorW.PrintMore Go.Proofs.YtjllbkeobibnkaaDoorK
attribute [local go_sem] max2_int min2_int max_two min_two max_three min_three max_four min_four   -- for this text's walks alone
attribute [local go_sem ↓] Go.Proofs.YtjllbkeobibnkaaDoorK.isSome_setCell
set_option linter.unusedVariables false
set_option linter.unusedSimpArgs false

/-! ### aquiferref05_sure: function 79 -/
def aquiferref05_sure.f (k : Nat) (a0 : ByteArray) : Option (ByteArray × Int) := (aquiferref05_Kind.f k a0).bind fun bt139 => (if bt139.2 = 0 then (some (a0, 0)) else (some ((⟨#[]⟩ : ByteArray), bt139.2)))
theorem aquiferref05_sure.mono : ∀ a0 k, LeO (aquiferref05_sure.f k a0) (aquiferref05_sure.f (k + 1) a0) := by
  intro a0 k
  unfold aquiferref05_sure.f
  repeat' first
      | (with_reducible exact aquiferref05_Kind.mono _ _)
      | (with_reducible exact LeO.refl _)
      | (with_reducible exact LeO.none _)
      | (with_reducible refine LeO.ite ?_ ?_)
      | (with_reducible refine LeO.bind ?_ (fun _ => ?_))
      | exact aquiferref05_Kind.mono _ _
      | exact LeO.none _
      | refine LeO.ite ?_ ?_
      | refine LeO.bind ?_ (fun _ => ?_)
set_option maxHeartbeats 8000000 in
set_option maxRecDepth 100000 in
theorem aquiferref05_sure.calls (k : Nat) (a0 : ByteArray) (r1 : ByteArray) (r2 : Int) (w : World) (h : aquiferref05_sure.f k a0 = some (r1, r2)) :
    Calls Tryd.prog 79 #[.string a0] w fun e w' => e = .returned (.tuple #[.string r1, .int .i64 r2]) ∧ Below w.heap.size w w' := by
  have HB := Aside0.mk (Below.refl w.heap.size w)
  have H : ((aquiferref05_Kind.f k a0).bind fun bt139 => (if bt139.2 = 0 then (some (a0, 0)) else (some ((⟨#[]⟩ : ByteArray), bt139.2)))) = some (r1, r2) := h
  clear h
  replace H := Option.bind_eq_some_iff.mp H
  obtain ⟨⟨t139, t140⟩, A20, H⟩ := H
  replace H : (if t140 = 0 then (some (a0, 0)) else (some ((⟨#[]⟩ : ByteArray), t140))) = some (r1, r2) := H
  have A2 := Aside0.mk A20
  clear A20
  by_cases c3 : t140 = 0
  · rw [if_pos c3] at H
    have c3b0 : (t140 == 0) = true := beq_iff_eq.mpr c3
    have c3b1 : (t140 != 0) = false := bne_eq_false_iff_eq.mpr c3
    clear c3
    simp only [Option.some.injEq, Prod.mk.injEq] at H
    obtain ⟨rfl, rfl⟩ := H
    go_enter Tryd.func79, Tryd.ntmps79
    go_wp2_with (first | ((with_reducible refine gate_callee (f := 66) rfl ?_); refine goesL_ (some 8) rfl rfl Tryd.func66 (by kernel_rfl) rfl #[.string a0] rfl (by (try simp only [List.map_toArray, List.map_cons, List.map_nil]); first | done | rfl | (simp only [List.length_drop, List.length_take]; rfl)) ?_; (with_reducible refine (aquiferref05_Kind.calls k a0 t139 t140 _ A2.out).mono ?_); rintro e w4 ⟨rfl, hb⟩; refine ⟨_, rfl, ?_⟩; have n0_ := Aside0.mk (below_step (belU HB.out) hb); clear HB; have HB := n0_; clear n0_; (try clear hb); (try clear hb2); (try clear hk); (try clear hi)))
    go_ret2
    exact ⟨by first | rfl | (simp [errW_none, errW_some] <;> rfl) | (simp [*, errW_none, errW_some] <;> rfl), belU HB.out⟩
  · rw [if_neg c3] at H
    have c3b0 : (t140 == 0) = false := beq_eq_false_iff_ne.mpr c3
    have c3b1 : (t140 != 0) = true := bne_iff_ne.mpr c3
    simp only [Option.some.injEq, Prod.mk.injEq] at H
    obtain ⟨rfl, rfl⟩ := H
    go_enter Tryd.func79, Tryd.ntmps79
    go_wp2_with (first | ((with_reducible refine gate_callee (f := 66) rfl ?_); refine goesL_ (some 8) rfl rfl Tryd.func66 (by kernel_rfl) rfl #[.string a0] rfl (by (try simp only [List.map_toArray, List.map_cons, List.map_nil]); first | done | rfl | (simp only [List.length_drop, List.length_take]; rfl)) ?_; (with_reducible refine (aquiferref05_Kind.calls k a0 t139 t140 _ A2.out).mono ?_); rintro e w5 ⟨rfl, hb⟩; refine ⟨_, rfl, ?_⟩; have n0_ := Aside0.mk (below_step (belU HB.out) hb); clear HB; have HB := n0_; clear n0_; (try clear hb); (try clear hb2); (try clear hk); (try clear hi)))
    go_ret2
    exact ⟨by first | rfl | (simp [errW_none, errW_some] <;> rfl) | (simp [*, errW_none, errW_some] <;> rfl), belU HB.out⟩

end Go.Proofs.YtjllbkeobibnkaaDoor.Q

namespace Go.Proofs.YtjllbkeobibnkaaDoor.Q
open Go Go.Proofs Go.Shelf Go.RowKit Go.Lib Go.Proofs.YtjllbkeobibnkaaDoorP Go.Proofs.YtjllbkeobibnkaaDoorK Go.Proofs.YtjllbkeobibnkaaDoorW.PrintWords Go.Proofs.YtjllbkeobibnkaaDoorW.PrintLast Go.Proofs.YtjllbkeobibnkaaDoorW.PrintMore
set_option linter.unusedSimpArgs false
set_option linter.unusedVariables false
/-! ### The document's path.Copy -/
/-- The last point among the first j bytes; 0: none. -/
def atP (p : ByteArray) (j : Nat) : Nat := (lastIdx p 46 j).toNat
theorem bt_get (p : ByteArray) (j : Nat) (h : j < p.size) : bt p (j : Int) = ((p.data[j]!).toNat : Int) := by
  have h1 : bt p (j : Int) = ((p[j]'h).toNat : Int) := by simp [bt, h]
  rw [h1, getElem!_pos p.data j h]
  rfl
set_option maxRecDepth 100000 in
set_option maxHeartbeats 2000000 in
theorem rpcopy_any (p : ByteArray) (hp : p.size ≤ 32000) : ∀ W (n : Nat), 1 ≤ n → n ≤ 999 → Calls Tryd.prog 57 #[.string p, .int .i64 (n : Int)] W fun e w' => e = .returned (.tuple #[.string (cpK p n).1, .int .i64 (cpK p n).2]) ∧ Below W.heap.size W w' := by
  intro w n h1 h2
  have hk0 := fun W => rKind_any W p (by omega)
  have HK := Aside0.mk hk0
  clear hk0
  have g1 : ¬ ((n : Int) < 1) := by omega
  have g2 : ¬ ((999 : Int) < (n : Int)) := by omega
  have G1 : decide ((n : Int) < 1) = false := decide_eq_false g1
  have G2 : decide ((999 : Int) < (n : Int)) = false := decide_eq_false g2
  unfold cpK
  by_cases hk : kindS p = (2, 0)
  · rw [if_pos hk]
    obtain ⟨z, hz1, hz2, hz3, hz4⟩ := last_point p hk
    have hsz : (cpName p n).size ≤ 65536 := by have := cp_size p n; omega
    have hsu : ∀ W, Calls Tryd.prog 79 #[.string (cpName p n)] W fun e w' => e = .returned (.tuple #[.string (if (kindS (cpName p n)).2 = 0 then (cpName p n, 0) else (⟨#[]⟩, (kindS (cpName p n)).2)).1, .int .i64 (if (kindS (cpName p n)).2 = 0 then (cpName p n, (0 : Int)) else (⟨#[]⟩, (kindS (cpName p n)).2)).2]) ∧ Below W.heap.size W w' := fun W => by
      refine aquiferref05_sure.calls (65536 + 300) (cpName p n) _ _ W ?_
      unfold aquiferref05_sure.f
      rw [refkind _ hsz _ (by omega), Option.bind_some]
      split <;> rfl
    generalize (if (kindS (cpName p n)).2 = 0 then (cpName p n, (0 : Int)) else (⟨#[]⟩, (kindS (cpName p n)).2)) = u at hsu ⊢
    have hde : ∀ W, Calls Tryd.prog 80 #[.int .i64 (n : Int)] W fun e w' => e = .returned (.string (decB n)) ∧ Below W.heap.size W w' := fun W => (aquiferref05_decimal.calls 12 (n : Int) _ W (refdec n h1 h2)).mono fun _ _ h => ⟨h.1, h.2.below⟩
    have HS := Aside0.mk hsu
    have HD := Aside0.mk hde
    have hcn : cpName p n = p.extract 0 z ++ ⟨#[126]⟩ ++ decB n ++ p.extract z p.size := by unfold cpName; rw [hz2]; rfl
    have HZ := Aside0.mk hz2
    rw [hk] at HK
    clear hk hsu hde hsz hz2 hz3 hz4
    go_enter Tryd.func57, Tryd.ntmps57
    go_wp2_with fail
    refine (HK.out _).mono ?_
    rintro r1 w1 ⟨rfl, hb⟩
    have p1 := prev_call hb
    clear hb
    go_wp2_with fail
    go_loopw [8, 9] (fun a i wr => ∃ j : Nat, j ≤ p.size ∧ i = .int .i64 (j : Int) ∧ a = .int .i64 (atP p j : Int) ∧ wr = w1) (fun _ i _ => p.size - (intOf i).toNat)
    case atStart => exact ⟨0, Nat.zero_le _, rfl, rfl, rfl⟩
    case round =>
      obtain ⟨j, hj, rfl, rfl, hw⟩ := hrel
      obtain rfl : w1 = wr := hw.symm
      by_cases hlt : j < p.size
      · have hb : ((p[j]'hlt).toNat : Int) = ((p.data[j]!).toNat : Int) := by rw [getElem!_pos p.data j hlt]; rfl
        by_cases hx : ((p.data[j]!).toNat : Int) = 46
        · have ha : atP p (j + 1) = j := by unfold atP; rw [lastIdx_hit p 46 j hx]; rfl
          rw [hx] at hb
          have hbb : (((p[j]'hlt).toNat : Int) == 46) = true := beq_iff_eq.mpr hb
          clear hx hb
          go_wp2_with fail
          go_roundw
          case rel => exact ⟨j + 1, by omega, by go_num, by rw [ha], trivial⟩
          case measure => simp [intOf]; omega
        · have ha : atP p (j + 1) = atP p j := by unfold atP; rw [lastIdx_miss p 46 j hx]
          rw [← hb] at hx
          have hbb : (((p[j]'hlt).toNat : Int) == 46) = false := beq_eq_false_iff_ne.mpr hx
          clear hx hb
          go_wp2_with fail
          go_roundw
          case rel => exact ⟨j + 1, by omega, by go_num, by rw [ha], trivial⟩
          case measure => simp [intOf]; omega
      · obtain rfl : j = p.size := by omega
        have ha : atP p p.size = z := by unfold atP; rw [show lastIdx p 46 p.size = lastIndexByte p 46 from rfl, HZ.out]; rfl
        rw [ha]
        clear ha
        have hdz := dec_size n
        have hz2 : z ≤ p.size := by omega
        have hz5 : (0 : Int) ≤ (z : Int) := by omega
        have hz6 : (z : Int) ≤ (p.size : Int) := by omega
        clear hz1 hj hlt
        have b1 : ¬ (9223372036854775807 < z + 1) := by omega
        have b2 : ¬ (9223372036854775807 < z + 1 + (decB n).size) := by omega
        have b3 : ¬ (9223372036854775807 < z + 1 + (decB n).size + (p.size - z)) := by omega
        go_wp2_with fail
        go_region_held3 (fun _ => True) (first | exact trivial)
          (first | (go_at_call 80; refine (HD.out _).mono ?_; rintro r3 w3 ⟨rfl, hb⟩; have p3 := prev_call hb; clear hb) | (go_at_call 79; rw [← hcn]; refine (HS.out _).mono ?_; rintro r4 w4 ⟨rfl, hb⟩; have p4 := prev_call hb; clear hb))
        go_wp2_with fail
        go_ret2
        exact ⟨rfl, bel _ _⟩
  · rw [if_neg hk]
    generalize kindS p = r at HK hk
    obtain ⟨k, e⟩ := r
    dsimp only at HK
    have hk' : ¬ (k = 2 ∧ e = 0) := fun h => hk (by rw [h.1, h.2])
    clear hk
    by_cases he : e = 0
    · subst he
      have hk2 : ¬ k = 2 := fun h => hk' ⟨h, rfl⟩
      clear hk'
      go_enter Tryd.func57, Tryd.ntmps57
      go_wp2_with fail
      refine (HK.out _).mono ?_
      rintro r1 w1 ⟨rfl, hb⟩
      have p1 := prev_call hb
      clear hb
      go_wp2_with fail
      go_ret2
      exact ⟨rfl, bel _ _⟩
    · clear hk'
      go_enter Tryd.func57, Tryd.ntmps57
      go_wp2_with fail
      refine (HK.out _).mono ?_
      rintro r1 w1 ⟨rfl, hb⟩
      have p1 := prev_call hb
      clear hb
      go_wp2_with fail
      go_ret2
      exact ⟨rfl, bel _ _⟩
end Go.Proofs.YtjllbkeobibnkaaDoor.Q

namespace Go.Proofs.YtjllbkeobibnkaaDoor.Q
open Go Go.Proofs Go.Shelf Go.RowKit Go.Lib Go.Sort Go.Proofs.YtjllbkeobibnkaaDoorP Go.Proofs.YtjllbkeobibnkaaDoorK Go.Proofs.YtjllbkeobibnkaaDoorW.PrintWords Go.Proofs.YtjllbkeobibnkaaDoorW.PrintLast Go.Proofs.YtjllbkeobibnkaaDoorW.PrintMore
set_option linter.unusedSimpArgs false
set_option linter.unusedVariables false
/-! ### MergeTells -/
theorem cutB_size (p : ByteArray) : (cutB p).size ≤ 110 := by
  unfold cutB mn
  rw [ByteArray.size_extract]
  split <;> omega
theorem fewL_few (l : List S58) : fewK (fewL l) = true := by
  unfold fewK fewL
  rw [List.length_map, List.length_take, decide_eq_true (by omega : min 20 l.length ≤ 1000), Bool.true_and, List.all_eq_true]
  intro k hk
  obtain ⟨x, _, rfl⟩ := List.mem_map.1 hk
  have := cutB_size x.f0
  exact decide_eq_true (by show (cutB x.f0).size ≤ 32000; omega)
theorem fewS_tiny (s : S24) : tinyS (fewS s) = true := by
  unfold tinyS fewS
  rw [fewL_few, fewL_few, fewL_few]
  rfl
attribute [local go_sem] min2_mnF min_two cell_held frozen_held
attribute [local go_sem ↓ high] lvx_of
attribute [local go_sem] lv_sc lv24 lv33
--REGWORDS tells1
def tells1.T1 : Bool × List (List Nat × List Nat) := (true, [([], []), ([0], [0]), ([], []), ([], []), ([3], [3]), ([4], [4]), ([2, 5], [2, 5]), ([1, 1, 0, 1], [1]), ([6, 7, 0, 1, 2, 3, 4, 5, 6, 7], [2, 3, 6])])
def tells1.B1 : List Nat := [0, 1, 0, 0, 8, 24, 60, 3, 255]
theorem tells1.tab1 : rtab .any (opsOf Tryd.f3 1) = tells1.T1 := by kernel_rfl
theorem tells1.bits1 : waitsOk tells1.T1.2 tells1.B1 = true := by kernel_rfl
--END
set_option maxRecDepth 100000 in
set_option maxHeartbeats 4000000 in
theorem tells_any (w : World) (s : S24) (v : Array Value) (p : ByteArray) (hs : SideIn w s v) :
    Calls Tryd.prog 3 #[.agg v, .string p] w fun e w' => e = .returned (.bool true) ∧ Below w.heap.size w w' := by
  have HF := Aside0.mk (fun W (hb : Below w.heap.size w W) => Few_any W s v (hs.below hb))
  have ht := fewS_tiny s
  generalize fewS s = t at HF ht
  have hp := cutB_size p
  obtain ⟨m1, m2⟩ := mn_ok p
  have HC := Aside0.mk (fun W v h => Changed_any W t v (cutB p) h (tinyS_ok ht))
  have HD := Aside0.mk (fun W v h => rChanged_any W t v (cutB p) h (tinyS_ok ht))
  have HP := Aside0.mk (fun W v h => Copy_any W t v (cutB p) (cpK (cutB p)) (pcopy_any (cutB p) (by omega)) h (tinyS_ok ht))
  have HQ := Aside0.mk (fun W v h => rCopy_any W t v (cutB p) (cpK (cutB p)) (rpcopy_any (cutB p) (by omega)) h (tinyS_ok ht))
  have HW := Aside0.mk (fun W => works_any W)
  obtain ⟨A, c, B, d, C, e, rfl, l1, l2, l3, h1, h2, h3⟩ := hs.out
  generalize copyS (cpK (cutB p)) t = cc at HP HQ
  generalize chgS t (cutB p) = ch at HC HD
  unfold cutB at HC HD HP HQ
  obtain ⟨cq, ck⟩ := cc
  obtain ⟨ha, hb⟩ := ch
  dsimp only at HC HD HP HQ
  clear hs ht hp l1 l2 l3 h1 h2 h3
  generalize s.f0.length = n0 at *
  generalize s.f1.length = n1 at *
  generalize s.f2.length = n2 at *
  go_enter Tryd.func3, Tryd.ntmps3
  go_wp2_with fail
  --REG tells1
  refine start_ (n := 9) (S := fun w' => w'.heap[w.heap.size]? = some (.cells #[.slice A n0 c, .slice B n1 d, .slice C n2 e] 24 (0, 0))) (ds := [7]) #[false, false, false, false, false, false, false, false, false] (by kernel_rfl) rfl rfl held (fun hHeld => ?_); refine with_tabW tells1.tab1 tells1.bits1 (fun HT_ HW_ => ?_)
  refine pure_ (i := 2) (N := some 15) (v := ?_) (a' := ?_) #[false, false, true, false, false, false, false, false, false] rfl rfl (any_of HT_.out (by kernel_rfl)) (fun _ _ _ h => h) (Or.inl ⟨by rfl, ?_⟩) ?_ ?_
  rotate_left
  · intro w'
    go_simp
    with_reducible rfl
  rotate_left
  · simp only [Act.put, List.setIfInBounds_toArray, List.set_cons_zero, List.set_cons_succ, i64_w, i32_w]
    rfl
  refine pure_ (i := 3) (N := some 16) (v := ?_) (a' := ?_) #[false, false, true, true, false, false, false, false, false] rfl rfl (any_of HT_.out (by kernel_rfl)) (fun _ _ _ h => h) (Or.inl ⟨by rfl, ?_⟩) ?_ ?_
  rotate_left
  · intro w'
    go_simp
    with_reducible rfl
  rotate_left
  · simp only [Act.put, List.setIfInBounds_toArray, List.set_cons_zero, List.set_cons_succ, i64_w, i32_w]
    rfl
  refine pure_ (i := 4) (N := some 17) (v := ?_) (a' := ?_) #[false, false, true, true, true, false, false, false, false] rfl rfl (any_of HT_.out (by kernel_rfl)) (fun _ _ _ h => h) (Or.inl ⟨by rfl, ?_⟩) ?_ ?_
  rotate_left
  · intro w'
    go_simp
    with_reducible rfl
  rotate_left
  · simp only [Act.put, List.setIfInBounds_toArray, List.set_cons_zero, List.set_cons_succ, i64_w, i32_w]
    rfl
  refine pure_ (i := 5) (N := some 18) (v := ?_) (a' := ?_) #[false, false, true, true, true, true, false, false, false] rfl rfl (any_of HT_.out (by kernel_rfl)) (fun _ _ _ h => h) (Or.inl ⟨by rfl, ?_⟩) ?_ ?_
  rotate_left
  · intro w'
    go_simp
    with_reducible rfl
  rotate_left
  · simp only [Act.put, List.setIfInBounds_toArray, List.set_cons_zero, List.set_cons_succ, i64_w, i32_w]
    rfl
  refine pure_ (i := 6) (N := some 19) (v := ?_) (a' := ?_) #[false, false, true, true, true, true, true, false, false] rfl rfl (any_of HT_.out (by kernel_rfl)) (fun _ _ _ h => h) (Or.inl ⟨by rfl, ?_⟩) ?_ ?_
  rotate_left
  · intro w'
    go_simp
    with_reducible rfl
  rotate_left
  · simp only [Act.put, List.setIfInBounds_toArray, List.set_cons_zero, List.set_cons_succ, i64_w, i32_w]
    rfl
  refine take_ (i := 0) (N := some 13) (v := ?_) (a' := ?_) #[true, false, true, true, true, true, true, false, false] rfl rfl (take_ofW HT_.out HW_.out (by kernel_rfl)) (fun _ _ _ h => h) (Or.inl ⟨by rfl, ?_⟩) hHeld ?_ ?_
  rotate_left
  · rintro w' s0
    have i0 : Go.Proofs.YtjllbkeobibnkaaDoorK.Holds w' w.heap.size (.cells #[.slice A n0 c, .slice B n1 d, .slice C n2 e] 24) := ⟨s0⟩
    go_simp
    with_reducible rfl
  rotate_left
  · simp only [Act.put, List.setIfInBounds_toArray, List.set_cons_zero, List.set_cons_succ, i64_w, i32_w]
    rfl
  refine one_ (i := 1) (N := some 14) #[true, true, true, true, true, true, true, false, false] rfl rfl (one_of HT_.out (by kernel_rfl)) (by decide) (fun K hK => ?_)
  refine goes_ Tryd.func8 (by kernel_rfl) rfl #[.agg #[.slice A n0 c, .slice B n1 d, .slice C n2 e]] (by rfl) rfl rfl (by (try simp only [List.map_toArray, List.map_cons, List.map_nil]); first | done | rfl) ?_
  refine (HF.out _ (bel _ _)).mono ?_
  rintro e1 w1 ⟨v1, rfl, hv, hb⟩
  have p1 := prev_call hb
  have HV1 := Aside0.mk hv
  obtain ⟨A1, c1, B1, d1, C1, x1, rfl, _, _, _, _, _, _⟩ := hv.side.out
  clear hb hv
  refine ⟨_, rfl, ?_⟩
  refine hK.out _ _ held (fun hHeld => ?_)
  clear hK K
  refine norm_ (a' := ?_) ?_ ?_
  rotate_left
  · show Act.put _ (some 14) _ = _
    simp only [Act.put, List.setIfInBounds_toArray, List.set_cons_zero, List.set_cons_succ, i64_w, i32_w]
    rfl
  refine last_ (i := 7) (N := none) #[true, true, true, true, true, true, true, true, false] rfl rfl (one_of HT_.out (by kernel_rfl)) (by decide) (fun K hK => ?_)
  refine box_skip (by rfl) rfl 24 (.tmp 2) (.tmp 14) rfl held #[.slice A1 t.f0.length c1, .slice B1 t.f1.length d1, .slice C1 t.f2.length x1] rfl rfl info24 (by rfl) (by rfl) ?_
  intro w2 hx2 hg2
  have p2 := prev_row hg2
  have h2 : Go.Proofs.YtjllbkeobibnkaaDoorK.Holds w2 w.heap.size (.cells #[.slice A1 t.f0.length c1, .slice B1 t.f1.length d1, .slice C1 t.f2.length x1] 24) := ⟨hx2⟩
  clear hx2 hg2
  refine hK.out _ _ ?_
  clear hK K
  refine pure_ (i := 8) (N := some 1) (v := ?_) (a' := ?_) #[true, true, true, true, true, true, true, true, true] rfl rfl (any_of HT_.out (by kernel_rfl)) (fun _ _ _ h => h) (Or.inl ⟨by rfl, ?_⟩) ?_ ?_
  rotate_left
  · intro w'
    go_simp
    with_reducible rfl
  rotate_left
  · simp only [Act.put, List.setIfInBounds_toArray, List.set_cons_zero, List.set_cons_succ, i64_w, i32_w]
    rfl
  refine done_ (done_of HT_.out (by kernel_rfl)) ?_
  --END
  go_wp2_with fail
  refine (HC.out _ _ (SideR.x HV1.out).side).mono ?_
  rintro e3 w3 ⟨rfl, hb⟩
  have p3 := prev_call hb
  clear hb
  go_wp2_with fail
  refine (HD.out _ _ (SideR.x HV1.out).side).mono ?_
  rintro e4 w4 ⟨rfl, hb⟩
  have p4 := prev_call hb
  clear hb
  go_wp2_with fail
  refine (HP.out _ _ (SideR.x HV1.out).side).mono ?_
  rintro e5 w5 ⟨rfl, hb⟩
  have p5 := prev_call hb
  clear hb
  go_wp2_with fail
  refine (HQ.out _ _ (SideR.x HV1.out).side).mono ?_
  rintro e6 w6 ⟨rfl, hb⟩
  have p6 := prev_call hb
  clear hb
  go_wp2_with fail
  refine (HW.out _).mono ?_
  rintro e7 w7 ⟨rfl, hb⟩
  have p7 := prev_call hb
  clear hb
  go_wp2_with fail
  go_ret
  exact ⟨rfl, bel _ _⟩
end Go.Proofs.YtjllbkeobibnkaaDoor.Q

namespace Go.Proofs.YtjllbkeobibnkaaDoor.mergeTells
open Go.ChangeShapes Go.WideShapes Go.ChangeAt Go.RowKit Go.Proofs.YtjllbkeobibnkaaDoorK Go.Proofs.YtjllbkeobibnkaaDoorW.PrintWords Go.Proofs.YtjllbkeobibnkaaDoor.Q
open Go.ChangeMaps (open_string shut_string)
set_option linter.unusedVariables false
theorem own : ownKnob Tryd.prog.godebug = none := by kernel_rfl
theorem laidOut : laidOutB Tryd.prog = true := by kernel_rfl
set_option maxRecDepth 100000 in
theorem lifted (os : Os) (started : os.Started) (H : Type) (enc : TypeId × Value → H) :
    ReturnsInHanded {} Tryd.checked os 3 .any (fun w args => (Rows.mergeTellsSpec.pre enc Tryd.prog Tryd.f3 Rows.mergeTellsRow.domain false w args ∧ laidMetH Tryd.prog Rows.mergeTellsRow.laid w) ∧ sizedMet enc Tryd.prog Tryd.f3 (OpenSpec.ofChange Rows.mergeTellsSpec) false w args) (Rows.mergeTellsSpec.post enc Tryd.prog Tryd.f3 false true false false) := by
  refine returnsInHanded_of_change_and (C := Tryd.checked) (X := fun w _ => laidMetH Tryd.prog Rows.mergeTellsRow.laid w) (fun _ _ _ hh h => h.of_heap hh) own started (by kernel_rfl) Tryd.func3
    (ChangeSpec.witness_shaped (enc := enc) (C := Tryd.checked) (os := os) (X := fun w _ => laidMetH Tryd.prog Rows.mergeTellsRow.laid w) false (World.laidAll Tryd.prog os Rows.mergeTellsRow.laid) #[.agg #[.slice none 0 0, .slice none 0 0, .slice none 0 0], .string ByteArray.empty] 8 (World.laidAll_os _ _ _)
      (World.shaped_of_ZipB (by kernel_rfl) (by kernel_rfl)) (by kernel_rfl) (by kernel_rfl) (by kernel_rfl)
      (by rw [MakeChecks.laidMetH_plain _ _ _ (by kernel_rfl)]; exact laidMet_laidAll _ (by kernel_rfl) (by kernel_rfl))) ?_
  intro W base args ds gs before hval0 hW hcnd hsz0 _ _
  have hsz : (DataW.weightsEach Tryd.prog (Tryd.f3.params.toList ++ Rows.mergeTellsSpec.plain.varTypes Tryd.prog) (ds ++ gs)).all (· ≤ reachBytes) = true := hsz0
  have hval : ∀ (j : Nat) t v, Tryd.f3.params[j]? = some t → args[j]? = some v → Value.okWide Tryd.prog W .any base t v := hval0
  have hW' := hW
  obtain ⟨p, q, hA0, hV, rfl, hfz, hnd⟩ := hW
  have hA : DataW.TrodAll enc Tryd.prog W 0 (fun _ => true) true Tryd.f3.params.toList args.toList ds p := hA0
  rw [Tryd.params3] at hA hval hsz
  obtain ⟨v0, vs0, d0, ds0, p0, q0, hargs, rfl, rfl, h0, r0⟩ := trodAll_cons hA
  obtain ⟨v1, vs1, d1, ds1, p1, q1, rfl, rfl, rfl, h1, r1⟩ := trodAll_cons r0
  obtain ⟨rfl, rfl, rfl⟩ := trodAll_nil r1
  obtain rfl : args = #[v0, v1] := by cases args; simp_all
  obtain ⟨rfl, rfl⟩ := trodVars_none hV
  obtain ⟨cs0, rfl, hz0⟩ := okWide_struct Tryd.underlying24 (hval 0 24 v0 rfl rfl)
  have k0 := h0
  have lt0 : ∀ x ∈ p0, x.block < W.heap.size := by obtain ⟨m, hm⟩ := k0; exact DataW.trod_lt m _ _ _ hm
  obtain ⟨x0, hK0, _⟩ : ∃ x, k24.K W x cs0.toList ∧ True := by
    obtain ⟨fuel, hf⟩ := h0
    exact opens24 _ _ _ _ _ _ _ _ _ hf
  have hS0 := k24_side hK0
  obtain ⟨a1, rfl, rfl, rfl, y1⟩ := open_string Tryd.underlying9 (hval 1 9 v1 rfl rfl) h1
  have w1 : a1.size ≤ 140737488351232 := by
    have z := sized_string hsz (j := 1) (t := 9) rfl rfl
    rw [Array.length_toList] at z
    exact z
  clear hA0 hval0 hsz0 hsz
  refine (tells_any W x0 _ a1 hS0).mono fun e W' he0 => ?_
  obtain ⟨rfl, bel0⟩ := he0
  have bel : Below W.heap.size W W' := bel0
  exact ⟨_, rfl, _, _, _, [], _, [], hW', trodAll_mk1 (shut_bool Tryd.underlying4 _), (trodAll_cons_mk (Below.trod laidOut (by kernel_rfl) (of_decide_eq_true (by kernel_rfl)) k0 bel lt0) (trodAll_cons_mk (shut_string Tryd.underlying9 y1) trodAll_mk0)), rfl, bel.frame _, fun h => by cases h⟩
theorem over : Rows.mergeTellsRow.holds Tryd.pinned (OpenSpec.ofChange Rows.mergeTellsSpec) :=
  OpenClaim.holds_of_wide 3 Tryd.f3 rfl rfl rfl rfl rfl rfl rfl ⟨rfl, rfl, rfl, rfl, rfl⟩ rfl rfl rfl rfl rfl (by kernel_rfl) Tryd.func3 (by kernel_rfl)
    (of_decide_eq_true (by kernel_rfl)) (by unfold Func.isWrapper; first | (rw [if_pos (by decide +kernel)]; kernel_rfl) | (rw [if_neg (by decide +kernel)]; exact ⟨rfl, rfl⟩))
    (fun os started H enc _ => lifted os started H enc)
theorem card : Rows.MergeTellsCardSaid :=
  Claim7.holds_tied_plain_at .later [] [.data, .pinned] true (true, "78899013b187db133d03f13ef116ebf99bfe5271257e851bcb492081257ec2bb") false over (fun _ h => by cases h) (by kernel_rfl) (fun _ h => by cases h) mergeTells_row_tie rfl ⟨rfl, rfl⟩ (by kernel_rfl) rfl
    (fun f fn hf hfn => by
      obtain rfl : f = 3 := Option.some.inj ((show Tryd.prog.funcNamed "aquifer/aquiferlaw28.MergeTells" = some 3 by kernel_rfl).symm.trans hf) |>.symm
      obtain rfl : fn = Tryd.f3 := (Option.some.inj (Tryd.func3.symm.trans hfn)).symm
      exact ⟨by kernel_rfl, fun j t ht => by
        rw [Tryd.params3] at ht
        have hm : t ∈ [24, 9] := by simpa using Array.mem_of_getElem? ht
        have hall : ([24, 9].all fun u => !Tryd.prog.wantsStandIn u) = true := by kernel_rfl
        exact (show Tryd.prog.wantsStandIn t = false by simpa using List.all_eq_true.1 hall t hm)⟩)
    (by kernel_rfl)
theorem proved : Rows.MergeTellsCardSaid := card
#print axioms proved
end Go.Proofs.YtjllbkeobibnkaaDoor.mergeTells
namespace Go.Proofs.YtjllbkeobibnkaaDoor
/-- The card, under a short name, for the claim. -/
theorem mergeTells_holds : Rows.MergeTellsCardSaid := mergeTells.proved
end Go.Proofs.YtjllbkeobibnkaaDoor
