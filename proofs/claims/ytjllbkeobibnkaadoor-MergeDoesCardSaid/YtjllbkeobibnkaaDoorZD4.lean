/- Parts of the proof: HDo, HRReady, HRWith, HRWo, HRDo, HRSame, HRSame2, HFree, HCopy, HRCopy, HPlan1, HDec, HDec2, Q32, PDec, PPoint. -/
import Derived.Test.YtjllbkeobibnkaaDoorZD3
import Derived.StillTailTactics
import Derived.BigQuiet
import Derived.Test.YtjllbkeobibnkaaDoorWEqStruct
import Derived.Test.YtjllbkeobibnkaaDoorZD1
import Derived.RegionTactic
import Derived.Shelf.Abstract
import Derived.Test.YtjllbkeobibnkaaDoorZD2
set_option linter.unusedVariables false
set_option linter.unusedSimpArgs false
namespace Go.Proofs.YtjllbkeobibnkaaDoor.Q
open Go Go.Proofs Go.Shelf Go.RowKit Go.Lib Go.Sort Go.Proofs.YtjllbkeobibnkaaDoorP Go.Proofs.YtjllbkeobibnkaaDoorK Go.Proofs.YtjllbkeobibnkaaDoorW.PrintWords Go.Proofs.YtjllbkeobibnkaaDoorW.PrintLast Go.Proofs.YtjllbkeobibnkaaDoorW.PrintMore
set_option linter.unusedSimpArgs false
set_option linter.unusedVariables false
/-! ### merge.Do -/
attribute [local go_sem] A51_size A51_0 A51_1 A51_g0 A51_g1 A58_size A58_0 A58_1 A58_2 A58_g0 A58_g1 A58_g2 cell_held frozen_held
attribute [local go_sem] A65_size A65_0 A65_34 A65_68 A65_102 A65_103 A65_104 A65_105 A65_106 A65_g0 A65_g34 A65_g68 A65_g102 A65_g103 A65_g104 A65_g105 A65_g106 set_inA set_inL set_inR set_here set_there
attribute [local go_sem] zero51 zero58 zero65 A33 set65l0
attribute [local go_sem ↓ high] lvx_of
attribute [local go_sem] lv_sc lv24 lv33
attribute [local go_sem ↓ high] lv51 lv51s lv58 lv58a lv65 lv65a lv65l lv65r sc51 sc58 sc65 sc65a sc65l sc65r sc58a
instance : Go.Proofs.YtjllbkeobibnkaaDoorK.NotIn 65 (58 :: k58.E) := ⟨by decide⟩
def do12.T12 : Bool × List (List Nat × List Nat) := (true, [([], []), ([0], [0]), ([], []), ([], []), ([3], [3]), ([1, 2, 4], [1, 2, 4]), ([], []), ([6], [6]), ([], []), ([], []), ([9], [9]), ([7, 8, 10, 5], [7, 8, 10]), ([], []), ([12], [12]), ([], []), ([], []), ([15], [15]), ([13, 14, 16, 11], [13, 14, 16]), ([5, 11, 17], [5, 11, 17]), ([18, 17, 0, 1, 2, 3, 4, 5, 6, 7, 8, 9, 10, 11, 12, 13, 14, 15, 16, 17, 18], [18]), ([19, 0, 1, 2, 3, 4, 5, 6, 7, 8, 9, 10, 11, 12, 13, 14, 15, 16, 17, 18, 19], [])])
def do12.B12 : List Nat := [0, 1, 0, 0, 8, 31, 0, 64, 0, 0, 512, 2047, 0, 4096, 0, 0, 32768, 131071, 262143, 524287, 1048575]
theorem do12.tab12 : rtab .any (opsOf Tryd.f14 12) = do12.T12 := by kernel_rfl
theorem do12.bits12 : waitsOk do12.T12.2 do12.B12 = true := by kernel_rfl
def do14.T14 : Bool × List (List Nat × List Nat) := (true, [([], []), ([0], [0]), ([], []), ([1, 2], [1, 2]), ([], []), ([4], [4]), ([], []), ([6], [6]), ([], []), ([7, 8, 3], [7, 8]), ([3, 5, 9], [3, 5, 9]), ([10, 9, 0, 1, 2, 3, 4, 5, 6, 7, 8, 9, 10], [10]), ([11, 0, 1, 2, 3, 4, 5, 6, 7, 8, 9, 10, 11], [])])
def do14.B14 : List Nat := [0, 1, 0, 7, 0, 16, 0, 64, 0, 463, 1023, 2047, 4095]
theorem do14.tab14 : rtab .any (opsOf Tryd.f14 14) = do14.T14 := by kernel_rfl
theorem do14.bits14 : waitsOk do14.T14.2 do14.B14 = true := by kernel_rfl
def do16.T16 : Bool × List (List Nat × List Nat) := (true, [([], []), ([0], [0]), ([], []), ([], []), ([3], [3]), ([1, 2, 4], [1, 2, 4]), ([], []), ([6], [6]), ([], []), ([], []), ([9], [9]), ([7, 8, 10, 5], [7, 8, 10]), ([], []), ([12], [12]), ([5, 11, 13], [5, 11, 13]), ([14, 11, 0, 1, 2, 3, 4, 5, 6, 7, 8, 9, 10, 11, 12, 13, 14], [14]), ([15, 0, 1, 2, 3, 4, 5, 6, 7, 8, 9, 10, 11, 12, 13, 14, 15], [])])
def do16.B16 : List Nat := [0, 1, 0, 0, 8, 31, 0, 64, 0, 0, 512, 2047, 0, 4096, 16383, 32767, 65535]
theorem do16.tab16 : rtab .any (opsOf Tryd.f14 16) = do16.T16 := by kernel_rfl
theorem do16.bits16 : waitsOk do16.T16.2 do16.B16 = true := by kernel_rfl
def do18.T18 : Bool × List (List Nat × List Nat) := (true, [([], []), ([0], [0]), ([], []), ([1, 2], [1, 2]), ([], []), ([4], [4]), ([], []), ([5, 6, 3], [5, 6]), ([], []), ([8], [8]), ([3, 7, 9], [3, 7, 9]), ([10, 7, 0, 1, 2, 3, 4, 5, 6, 7, 8, 9, 10], [10]), ([11, 0, 1, 2, 3, 4, 5, 6, 7, 8, 9, 10, 11], [])])
def do18.B18 : List Nat := [0, 1, 0, 7, 0, 16, 0, 127, 0, 256, 1023, 2047, 4095]
theorem do18.tab18 : rtab .any (opsOf Tryd.f14 18) = do18.T18 := by kernel_rfl
theorem do18.bits18 : waitsOk do18.T18.2 do18.B18 = true := by kernel_rfl
def do21.T21 : Bool × List (List Nat × List Nat) := (true, [([], []), ([0], [0]), ([], []), ([], []), ([3], [3]), ([1, 2, 4], [1, 2, 4]), ([], []), ([6], [6]), ([], []), ([], []), ([9], [9]), ([7, 8, 10, 5], [7, 8, 10]), ([], []), ([12], [12]), ([5, 11, 13], [5, 11, 13]), ([14, 11, 0, 1, 2, 3, 4, 5, 6, 7, 8, 9, 10, 11, 12, 13, 14], [14]), ([15, 0, 1, 2, 3, 4, 5, 6, 7, 8, 9, 10, 11, 12, 13, 14, 15], [])])
def do21.B21 : List Nat := [0, 1, 0, 0, 8, 31, 0, 64, 0, 0, 512, 2047, 0, 4096, 16383, 32767, 65535]
theorem do21.tab21 : rtab .any (opsOf Tryd.f14 21) = do21.T21 := by kernel_rfl
theorem do21.bits21 : waitsOk do21.T21.2 do21.B21 = true := by kernel_rfl
def do23.T23 : Bool × List (List Nat × List Nat) := (true, [([], []), ([0], [0]), ([], []), ([2], [2]), ([], []), ([4], [4]), ([1, 3, 5], [1, 3, 5]), ([], []), ([], []), ([8], [8]), ([6, 7, 9, 6], [6, 7, 9]), ([10, 10, 0, 1, 2, 3, 4, 5, 6, 7, 8, 9, 10], [10])])
def do23.B23 : List Nat := [0, 1, 0, 4, 0, 16, 63, 0, 0, 256, 1023, 2047]
theorem do23.tab23 : rtab .any (opsOf Tryd.f14 23) = do23.T23 := by kernel_rfl
theorem do23.bits23 : waitsOk do23.T23.2 do23.B23 = true := by kernel_rfl
def do24.T24 : Bool × List (List Nat × List Nat) := (true, [([], []), ([0], [0]), ([], []), ([], []), ([3], [3]), ([1, 2, 4], [1, 2, 4]), ([], []), ([], []), ([7], [7]), ([5, 6, 8], [5, 6, 8]), ([9, 5, 0, 1, 2, 3, 4, 5, 6, 7, 8, 9], [9]), ([10, 0, 1, 2, 3, 4, 5, 6, 7, 8, 9, 10], [])])
def do24.B24 : List Nat := [0, 1, 0, 0, 8, 31, 0, 0, 128, 511, 1023, 2047]
theorem do24.tab24 : rtab .any (opsOf Tryd.f14 24) = do24.T24 := by kernel_rfl
theorem do24.bits24 : waitsOk do24.T24.2 do24.B24 = true := by kernel_rfl
def do25.T25 : Bool × List (List Nat × List Nat) := (true, [([], []), ([0], [0]), ([], []), ([1, 2], [1, 2]), ([], []), ([4], [4]), ([], []), ([6], [6]), ([3, 5, 7], [3, 5, 7]), ([8, 3, 0, 1, 2, 3, 4, 5, 6, 7, 8], [8]), ([9, 0, 1, 2, 3, 4, 5, 6, 7, 8, 9], [])])
def do25.B25 : List Nat := [0, 1, 0, 7, 0, 16, 0, 64, 255, 511, 1023]
theorem do25.tab25 : rtab .any (opsOf Tryd.f14 25) = do25.T25 := by kernel_rfl
theorem do25.bits25 : waitsOk do25.T25.2 do25.B25 = true := by kernel_rfl
set_option maxRecDepth 100000 in
set_option maxHeartbeats 8000000 in
theorem do_any (w : World) (s : S24) (v : Array Value) (x : S33) (ver : Int) (hs : SideIn w s v) (ht : tinyS s = true) (hx2 : x.f2.size ≤ 32000) (hx3 : x.f3.size ≤ 32000) :
    Calls Tryd.prog 14 #[.agg v, .agg (A33 x), .int .i64 ver] w fun e w' => ∃ v', e = .returned (.tuple #[.agg v', .int .i64 (doS s x ver).2]) ∧ SideIn w' (doS s x ver).1 v' ∧ Below w.heap.size w w' := by
  have HK := Aside0.mk (fun W (hb : Below w.heap.size w W) => Check_any W s v (hs.below hb) (tinyS_ok ht))
  have HA := Aside0.mk (fun W (hb : Below w.heap.size w W) => at_any W s v x.f2 (hs.below hb) (okS_short (tinyS_ok ht)))
  have HR := Aside0.mk (fun W y (hb : Below w.heap.size w W) => ready_any W s v x y (hs.below hb) (tinyS_ok ht) (by omega))
  have hk := @ready_kind s x (atS s x.f2)
  have h02 := checkS_two s
  have hok : checkS s = 0 → OkS s := (check_iff s).1
  obtain ⟨A, c, B, d, C, e, rfl, l1, l2, l3, h1, h2, h3⟩ := hs.out
  obtain ⟨t1, t2, t3⟩ := tinyS_open ht
  unfold doS
  generalize checkS s = ck at HK h02 hok ⊢
  generalize atS s x.f2 = y at HA hk ⊢
  replace HR := Aside0.mk (fun W hb => HR.out W y hb)
  generalize readyS s x y = rd at HR hk ⊢
  rcases h02 with rfl | rfl
  rotate_left
  · rw [if_neg (by decide)]
    obtain ⟨la, lb, lc⟩ := s
    dsimp only at *
    clear hs ht h1 h2 h3 t1 t2 t3 hok hk
    generalize la.length = n0 at *
    generalize lb.length = n1 at *
    generalize lc.length = n2 at *
    go_enter Tryd.func14, Tryd.ntmps14
    go_wp2_with fail
    refine (HK.out _ (bel _ _)).mono ?_
    rintro r1 w1 ⟨rfl, hb⟩
    have p1 := prev_call hb
    clear hb
    go_wp2_with fail
    refine bodyPost_ret (results_row_tmp rfl _ _ (.int .i64 2) held rfl rfl Tryd.underlying24 rfl (by exact info24)) rfl ?_
    exact ⟨_, rfl, SideIn.ofRow (Row.nil _) (Row.nil _) (Row.nil _), bel _ _⟩
  have hos := hok rfl
  rw [if_pos rfl]
  obtain ⟨k, u, p, q⟩ := x
  obtain ⟨la, lb, lc⟩ := s
  dsimp only at *
  have f1 := (fewK_open t1).1
  have f2 := (fewK_open t2).1
  have f3 := (fewK_open t3).1
  have HW0 := Aside0.mk (fun W (hb : Below w.heap.size w W) a => with_any W A c la p a (Kd.C_below h1 hb) l1 (fewK_short t1) (by omega) (by omega) hos.a.ris)
  have HW1 := Aside0.mk (fun W (hb : Below w.heap.size w W) a => with_any W B d lb p a (Kd.C_below h2 hb) l2 (fewK_short t2) (by omega) (by omega) hos.l.ris)
  have HW2 := Aside0.mk (fun W (hb : Below w.heap.size w W) a => with_any W C e lc p a (Kd.C_below h3 hb) l3 (fewK_short t3) (by omega) (by omega) hos.r.ris)
  have HT := Aside0.mk (fun W (hb : Below w.heap.size w W) a => with_any W B d lb q a (Kd.C_below h2 hb) l2 (fewK_short t2) (by omega) (by omega) hos.l.ris)
  have HTT := Aside0.mk (fun W A' c' a b (hC : k58.C W A' (withS lb q a).length (withS lb q a)) hc => with_any W A' c' (withS lb q a) p b hC hc (withS_short t2 hx3 a).1 (withS_short t2 hx3 a).2 (by omega) (withS_ris hos.l.ris q a))
  have HO0 := Aside0.mk (fun W (hb : Below w.heap.size w W) => without_any W A c la p (Kd.C_below h1 hb) (by omega))
  have HO1 := Aside0.mk (fun W (hb : Below w.heap.size w W) => without_any W B d lb p (Kd.C_below h2 hb) (by omega))
  have HO2 := Aside0.mk (fun W (hb : Below w.heap.size w W) => without_any W C e lc p (Kd.C_below h3 hb) (by omega))
  have HC0 := Aside0.mk h1
  have HC1 := Aside0.mk h2
  have HC2 := Aside0.mk h3
  have HKI := Aside0.mk hk
  obtain ⟨res, hres⟩ : ∃ r, doT ⟨la, lb, lc⟩ ⟨k, u, p, q⟩ ver y rd = r := ⟨_, rfl⟩
  rw [hres]
  have HRES := Aside0.mk hres
  clear hres
  clear hs ht h1 h2 h3 t1 t2 t3 hok hk hos f1 f2 f3 hx2 hx3
  go_enter Tryd.func14, Tryd.ntmps14
  go_wp2_with fail
  refine (HK.out _ (bel _ _)).mono ?_
  rintro r1 w1 ⟨rfl, hb⟩
  have p1 := prev_call hb
  clear hb
  go_wp2_with fail
  refine (HA.out _ (bel _ _)).mono ?_
  rintro r2 w2 ⟨rfl, hb⟩
  have p2 := prev_call hb
  have s2 : w.heap.size + 2 < w2.heap.size := held_lt (W := w2) (g := w.heap.size + 2)
  clear hb
  have a0 : Apart w.heap.size (.row w2.heap.size) := apart_ne (by omega)
  have a1 : Apart (w.heap.size + 1) (.row w2.heap.size) := apart_ne (by omega)
  have a2 : Apart (w.heap.size + 2) (.row w2.heap.size) := apart_ne (by omega)
  have a3 : Apart w2.heap.size (.row (w.heap.size + 2)) := apart_ne (by omega)
  have a4 : Apart w.heap.size (.row (w.heap.size + 2)) := apart_ne (by omega)
  have a5 : Apart (w.heap.size + 1) (.row (w.heap.size + 2)) := apart_ne (by omega)
  have o0 : OwnB w.heap.size (.row w2.heap.size) := own_row (by omega)
  go_wp2_with fail
  refine (HR.out _ (bel _ _)).mono ?_
  rintro r3 w3 ⟨rfl, hb⟩
  have p3 := prev_call hb
  clear hb
  cases rd with
  | false =>
    have hr : (z24, (9 : Int)) = res := HRES.out
    subst hr
    go_wp2_with fail
    refine bodyPost_ret (results_row_tmp rfl _ _ (.int .i64 9) held rfl rfl Tryd.underlying24 rfl (by exact info24)) rfl ?_
    exact ⟨_, rfl, SideIn.ofRow (Row.nil _) (Row.nil _) (Row.nil _), bel _ _⟩
  | true =>
    have hki := HKI.out rfl
    have hr := HRES.out
    unfold doT at hr
    rw [if_pos rfl] at hr
    dsimp only at hr
    clear HKI
    rcases hki with rfl | rfl | rfl | rfl | rfl | rfl | rfl
    · by_cases hv : ver < 1 ∨ 1099511627776 < ver
      · rw [if_pos ⟨rfl, hv⟩] at hr
        subst hr
        rcases hv with hv | hv
        · go_wp2_with fail
          refine bodyPost_ret (results_row_tmp rfl _ _ (.int .i64 2) held rfl rfl Tryd.underlying24 rfl (by exact info24)) rfl ?_
          exact ⟨_, rfl, SideIn.ofRow (Row.nil _) (Row.nil _) (Row.nil _), bel _ _⟩
        · have hv2 : ¬ ver < 1 := by omega
          go_wp2_with fail
          refine bodyPost_ret (results_row_tmp rfl _ _ (.int .i64 2) held rfl rfl Tryd.underlying24 rfl (by exact info24)) rfl ?_
          exact ⟨_, rfl, SideIn.ofRow (Row.nil _) (Row.nil _) (Row.nil _), bel _ _⟩
      · rw [if_neg (fun h => hv h.2)] at hr
        subst hr
        have hv1 : ¬ ver < 1 := fun h => hv (.inl h)
        have hv2 : ¬ 1099511627776 < ver := fun h => hv (.inr h)
        clear hv
        go_wp2_with fail
        refine start_ (n := 21) (S := fun w' => w'.heap[w.heap.size]? = some (.cells #[.slice A la.length c, .slice B lb.length d, .slice C lc.length e] 24 (0, 0)) ∧ w'.heap[w.heap.size + 1]? = some (.cells #[.int .i64 1, .int .i64 u, .string p, .string q] 33 (0, 0)) ∧ w'.heap[w2.heap.size]? = some (.cells (A65 { y with l := { y.l with f0 := ver } }) 65 (0, 0))) (ds := [19]) #[false, false, false, false, false, false, false, false, false, false, false, false, false, false, false, false, false, false, false, false, false] (by kernel_rfl) rfl rfl ⟨held, held, held⟩ (fun hHeld => ?_); refine with_tabW do12.tab12 do12.bits12 (fun HT_ HW_ => ?_)
        refine pure_ (i := 0) (N := some 47) (v := ?_) (a' := ?_) #[true, false, false, false, false, false, false, false, false, false, false, false, false, false, false, false, false, false, false, false, false] rfl rfl (any_of HT_.out (by kernel_rfl)) (fun _ _ _ h => h) (Or.inl ⟨by rfl, ?_⟩) ?_ ?_
        rotate_left
        · intro w'
          go_simp
          with_reducible rfl
        rotate_left
        · simp only [Act.put, List.setIfInBounds_toArray, List.set_cons_zero, List.set_cons_succ, i64_w, i32_w]
          rfl
        refine pure_ (i := 2) (N := some 49) (v := ?_) (a' := ?_) #[true, false, true, false, false, false, false, false, false, false, false, false, false, false, false, false, false, false, false, false, false] rfl rfl (any_of HT_.out (by kernel_rfl)) (fun _ _ _ h => h) (Or.inl ⟨by rfl, ?_⟩) ?_ ?_
        rotate_left
        · intro w'
          go_simp
          with_reducible rfl
        rotate_left
        · simp only [Act.put, List.setIfInBounds_toArray, List.set_cons_zero, List.set_cons_succ, i64_w, i32_w]
          rfl
        refine pure_ (i := 3) (N := some 50) (v := ?_) (a' := ?_) #[true, false, true, true, false, false, false, false, false, false, false, false, false, false, false, false, false, false, false, false, false] rfl rfl (any_of HT_.out (by kernel_rfl)) (fun _ _ _ h => h) (Or.inl ⟨by rfl, ?_⟩) ?_ ?_
        rotate_left
        · intro w'
          go_simp
          with_reducible rfl
        rotate_left
        · simp only [Act.put, List.setIfInBounds_toArray, List.set_cons_zero, List.set_cons_succ, i64_w, i32_w]
          rfl
        refine pure_ (i := 6) (N := some 53) (v := ?_) (a' := ?_) #[true, false, true, true, false, false, true, false, false, false, false, false, false, false, false, false, false, false, false, false, false] rfl rfl (any_of HT_.out (by kernel_rfl)) (fun _ _ _ h => h) (Or.inl ⟨by rfl, ?_⟩) ?_ ?_
        rotate_left
        · intro w'
          go_simp
          with_reducible rfl
        rotate_left
        · simp only [Act.put, List.setIfInBounds_toArray, List.set_cons_zero, List.set_cons_succ, i64_w, i32_w]
          rfl
        refine pure_ (i := 8) (N := some 55) (v := ?_) (a' := ?_) #[true, false, true, true, false, false, true, false, true, false, false, false, false, false, false, false, false, false, false, false, false] rfl rfl (any_of HT_.out (by kernel_rfl)) (fun _ _ _ h => h) (Or.inl ⟨by rfl, ?_⟩) ?_ ?_
        rotate_left
        · intro w'
          go_simp
          with_reducible rfl
        rotate_left
        · simp only [Act.put, List.setIfInBounds_toArray, List.set_cons_zero, List.set_cons_succ, i64_w, i32_w]
          rfl
        refine pure_ (i := 9) (N := some 56) (v := ?_) (a' := ?_) #[true, false, true, true, false, false, true, false, true, true, false, false, false, false, false, false, false, false, false, false, false] rfl rfl (any_of HT_.out (by kernel_rfl)) (fun _ _ _ h => h) (Or.inl ⟨by rfl, ?_⟩) ?_ ?_
        rotate_left
        · intro w'
          go_simp
          with_reducible rfl
        rotate_left
        · simp only [Act.put, List.setIfInBounds_toArray, List.set_cons_zero, List.set_cons_succ, i64_w, i32_w]
          rfl
        refine pure_ (i := 12) (N := some 59) (v := ?_) (a' := ?_) #[true, false, true, true, false, false, true, false, true, true, false, false, true, false, false, false, false, false, false, false, false] rfl rfl (any_of HT_.out (by kernel_rfl)) (fun _ _ _ h => h) (Or.inl ⟨by rfl, ?_⟩) ?_ ?_
        rotate_left
        · intro w'
          go_simp
          with_reducible rfl
        rotate_left
        · simp only [Act.put, List.setIfInBounds_toArray, List.set_cons_zero, List.set_cons_succ, i64_w, i32_w]
          rfl
        refine pure_ (i := 14) (N := some 61) (v := ?_) (a' := ?_) #[true, false, true, true, false, false, true, false, true, true, false, false, true, false, true, false, false, false, false, false, false] rfl rfl (any_of HT_.out (by kernel_rfl)) (fun _ _ _ h => h) (Or.inl ⟨by rfl, ?_⟩) ?_ ?_
        rotate_left
        · intro w'
          go_simp
          with_reducible rfl
        rotate_left
        · simp only [Act.put, List.setIfInBounds_toArray, List.set_cons_zero, List.set_cons_succ, i64_w, i32_w]
          rfl
        refine pure_ (i := 15) (N := some 62) (v := ?_) (a' := ?_) #[true, false, true, true, false, false, true, false, true, true, false, false, true, false, true, true, false, false, false, false, false] rfl rfl (any_of HT_.out (by kernel_rfl)) (fun _ _ _ h => h) (Or.inl ⟨by rfl, ?_⟩) ?_ ?_
        rotate_left
        · intro w'
          go_simp
          with_reducible rfl
        rotate_left
        · simp only [Act.put, List.setIfInBounds_toArray, List.set_cons_zero, List.set_cons_succ, i64_w, i32_w]
          rfl
        refine take_ (i := 1) (N := some 48) (v := ?_) (a' := ?_) #[true, true, true, true, false, false, true, false, true, true, false, false, true, false, true, true, false, false, false, false, false] rfl rfl (take_ofW HT_.out HW_.out (by kernel_rfl)) (fun _ _ _ h => h) (Or.inl ⟨by rfl, ?_⟩) hHeld ?_ ?_
        rotate_left
        · rintro w' ⟨s0, s1, s2⟩
          have i0 : Go.Proofs.YtjllbkeobibnkaaDoorK.Holds w' w.heap.size (.cells #[.slice A la.length c, .slice B lb.length d, .slice C lc.length e] 24) := ⟨s0⟩
          have i1 : Go.Proofs.YtjllbkeobibnkaaDoorK.Holds w' (w.heap.size + 1) (.cells #[.int .i64 1, .int .i64 u, .string p, .string q] 33) := ⟨s1⟩
          have i2 : Go.Proofs.YtjllbkeobibnkaaDoorK.Holds w' w2.heap.size (.cells (A65 { y with l := { y.l with f0 := ver } }) 65) := ⟨s2⟩
          go_simp
          with_reducible rfl
        rotate_left
        · simp only [Act.put, List.setIfInBounds_toArray, List.set_cons_zero, List.set_cons_succ, i64_w, i32_w]
          rfl
        refine take_ (i := 4) (N := some 51) (v := ?_) (a' := ?_) #[true, true, true, true, true, false, true, false, true, true, false, false, true, false, true, true, false, false, false, false, false] rfl rfl (take_ofW HT_.out HW_.out (by kernel_rfl)) (fun _ _ _ h => h) (Or.inl ⟨by rfl, ?_⟩) hHeld ?_ ?_
        rotate_left
        · rintro w' ⟨s0, s1, s2⟩
          have i0 : Go.Proofs.YtjllbkeobibnkaaDoorK.Holds w' w.heap.size (.cells #[.slice A la.length c, .slice B lb.length d, .slice C lc.length e] 24) := ⟨s0⟩
          have i1 : Go.Proofs.YtjllbkeobibnkaaDoorK.Holds w' (w.heap.size + 1) (.cells #[.int .i64 1, .int .i64 u, .string p, .string q] 33) := ⟨s1⟩
          have i2 : Go.Proofs.YtjllbkeobibnkaaDoorK.Holds w' w2.heap.size (.cells (A65 { y with l := { y.l with f0 := ver } }) 65) := ⟨s2⟩
          go_simp
          with_reducible rfl
        rotate_left
        · simp only [Act.put, List.setIfInBounds_toArray, List.set_cons_zero, List.set_cons_succ, i64_w, i32_w]
          rfl
        refine take_ (i := 7) (N := some 54) (v := ?_) (a' := ?_) #[true, true, true, true, true, false, true, true, true, true, false, false, true, false, true, true, false, false, false, false, false] rfl rfl (take_ofW HT_.out HW_.out (by kernel_rfl)) (fun _ _ _ h => h) (Or.inl ⟨by rfl, ?_⟩) hHeld ?_ ?_
        rotate_left
        · rintro w' ⟨s0, s1, s2⟩
          have i0 : Go.Proofs.YtjllbkeobibnkaaDoorK.Holds w' w.heap.size (.cells #[.slice A la.length c, .slice B lb.length d, .slice C lc.length e] 24) := ⟨s0⟩
          have i1 : Go.Proofs.YtjllbkeobibnkaaDoorK.Holds w' (w.heap.size + 1) (.cells #[.int .i64 1, .int .i64 u, .string p, .string q] 33) := ⟨s1⟩
          have i2 : Go.Proofs.YtjllbkeobibnkaaDoorK.Holds w' w2.heap.size (.cells (A65 { y with l := { y.l with f0 := ver } }) 65) := ⟨s2⟩
          go_simp
          with_reducible rfl
        rotate_left
        · simp only [Act.put, List.setIfInBounds_toArray, List.set_cons_zero, List.set_cons_succ, i64_w, i32_w]
          rfl
        refine take_ (i := 10) (N := some 57) (v := ?_) (a' := ?_) #[true, true, true, true, true, false, true, true, true, true, true, false, true, false, true, true, false, false, false, false, false] rfl rfl (take_ofW HT_.out HW_.out (by kernel_rfl)) (fun _ _ _ h => h) (Or.inl ⟨by rfl, ?_⟩) hHeld ?_ ?_
        rotate_left
        · rintro w' ⟨s0, s1, s2⟩
          have i0 : Go.Proofs.YtjllbkeobibnkaaDoorK.Holds w' w.heap.size (.cells #[.slice A la.length c, .slice B lb.length d, .slice C lc.length e] 24) := ⟨s0⟩
          have i1 : Go.Proofs.YtjllbkeobibnkaaDoorK.Holds w' (w.heap.size + 1) (.cells #[.int .i64 1, .int .i64 u, .string p, .string q] 33) := ⟨s1⟩
          have i2 : Go.Proofs.YtjllbkeobibnkaaDoorK.Holds w' w2.heap.size (.cells (A65 { y with l := { y.l with f0 := ver } }) 65) := ⟨s2⟩
          go_simp
          with_reducible rfl
        rotate_left
        · simp only [Act.put, List.setIfInBounds_toArray, List.set_cons_zero, List.set_cons_succ, i64_w, i32_w]
          rfl
        refine take_ (i := 13) (N := some 60) (v := ?_) (a' := ?_) #[true, true, true, true, true, false, true, true, true, true, true, false, true, true, true, true, false, false, false, false, false] rfl rfl (take_ofW HT_.out HW_.out (by kernel_rfl)) (fun _ _ _ h => h) (Or.inl ⟨by rfl, ?_⟩) hHeld ?_ ?_
        rotate_left
        · rintro w' ⟨s0, s1, s2⟩
          have i0 : Go.Proofs.YtjllbkeobibnkaaDoorK.Holds w' w.heap.size (.cells #[.slice A la.length c, .slice B lb.length d, .slice C lc.length e] 24) := ⟨s0⟩
          have i1 : Go.Proofs.YtjllbkeobibnkaaDoorK.Holds w' (w.heap.size + 1) (.cells #[.int .i64 1, .int .i64 u, .string p, .string q] 33) := ⟨s1⟩
          have i2 : Go.Proofs.YtjllbkeobibnkaaDoorK.Holds w' w2.heap.size (.cells (A65 { y with l := { y.l with f0 := ver } }) 65) := ⟨s2⟩
          go_simp
          with_reducible rfl
        rotate_left
        · simp only [Act.put, List.setIfInBounds_toArray, List.set_cons_zero, List.set_cons_succ, i64_w, i32_w]
          rfl
        refine take_ (i := 16) (N := some 63) (v := ?_) (a' := ?_) #[true, true, true, true, true, false, true, true, true, true, true, false, true, true, true, true, true, false, false, false, false] rfl rfl (take_ofW HT_.out HW_.out (by kernel_rfl)) (fun _ _ _ h => h) (Or.inl ⟨by rfl, ?_⟩) hHeld ?_ ?_
        rotate_left
        · rintro w' ⟨s0, s1, s2⟩
          have i0 : Go.Proofs.YtjllbkeobibnkaaDoorK.Holds w' w.heap.size (.cells #[.slice A la.length c, .slice B lb.length d, .slice C lc.length e] 24) := ⟨s0⟩
          have i1 : Go.Proofs.YtjllbkeobibnkaaDoorK.Holds w' (w.heap.size + 1) (.cells #[.int .i64 1, .int .i64 u, .string p, .string q] 33) := ⟨s1⟩
          have i2 : Go.Proofs.YtjllbkeobibnkaaDoorK.Holds w' w2.heap.size (.cells (A65 { y with l := { y.l with f0 := ver } }) 65) := ⟨s2⟩
          go_simp
          with_reducible rfl
        rotate_left
        · simp only [Act.put, List.setIfInBounds_toArray, List.set_cons_zero, List.set_cons_succ, i64_w, i32_w]
          rfl
        refine one_ (i := 5) (N := some 52) #[true, true, true, true, true, true, true, true, true, true, true, false, true, true, true, true, true, false, false, false, false] rfl rfl (one_of HT_.out (by kernel_rfl)) (by decide) (fun K hK => ?_)
        refine goes_ Tryd.func35 (by kernel_rfl) rfl #[.slice A la.length c, .string p, .agg (A51 { y.l with f0 := ver })] (by rfl) rfl rfl (by (try simp only [List.map_toArray, List.map_cons, List.map_nil]); first | done | rfl) ?_
        refine (HW0.out _ (bel _ _) ({ y.l with f0 := ver })).mono ?_
        rintro e4 w4 ⟨v4, rfl, hv, hb⟩
        have p4 := prev_call hb
        obtain ⟨X4, k4, rfl⟩ := Kd.R_slice hv
        have HV4 := Aside0.mk hv
        clear hb hv
        refine ⟨_, rfl, ?_⟩
        refine hK.out _ _ ⟨held, held, held⟩ (fun hHeld => ?_)
        clear hK K
        refine norm_ (a' := ?_) ?_ ?_
        rotate_left
        · show Act.put _ (some 52) _ = _
          simp only [Act.put, List.setIfInBounds_toArray, List.set_cons_zero, List.set_cons_succ, i64_w, i32_w]
          rfl
        refine one_ (i := 11) (N := some 58) #[true, true, true, true, true, true, true, true, true, true, true, true, true, true, true, true, true, false, false, false, false] rfl rfl (one_of HT_.out (by kernel_rfl)) (by decide) (fun K hK => ?_)
        refine goes_ Tryd.func35 (by kernel_rfl) rfl #[.slice B lb.length d, .string p, .agg (A51 { y.l with f0 := ver })] (by rfl) rfl rfl (by (try simp only [List.map_toArray, List.map_cons, List.map_nil]); first | done | rfl) ?_
        refine (HW1.out _ (bel _ _) ({ y.l with f0 := ver })).mono ?_
        rintro e5 w5 ⟨v5, rfl, hv, hb⟩
        have p5 := prev_call hb
        obtain ⟨X5, k5, rfl⟩ := Kd.R_slice hv
        have HV5 := Aside0.mk hv
        clear hb hv
        refine ⟨_, rfl, ?_⟩
        refine hK.out _ _ ⟨held, held, held⟩ (fun hHeld => ?_)
        clear hK K
        refine norm_ (a' := ?_) ?_ ?_
        rotate_left
        · show Act.put _ (some 58) _ = _
          simp only [Act.put, List.setIfInBounds_toArray, List.set_cons_zero, List.set_cons_succ, i64_w, i32_w]
          rfl
        refine one_ (i := 17) (N := some 64) #[true, true, true, true, true, true, true, true, true, true, true, true, true, true, true, true, true, true, false, false, false] rfl rfl (one_of HT_.out (by kernel_rfl)) (by decide) (fun K hK => ?_)
        refine goes_ Tryd.func35 (by kernel_rfl) rfl #[.slice C lc.length e, .string p, .agg (A51 { y.l with f0 := ver })] (by rfl) rfl rfl (by (try simp only [List.map_toArray, List.map_cons, List.map_nil]); first | done | rfl) ?_
        refine (HW2.out _ (bel _ _) ({ y.l with f0 := ver })).mono ?_
        rintro e6 w6 ⟨v6, rfl, hv, hb⟩
        have p6 := prev_call hb
        obtain ⟨X6, k6, rfl⟩ := Kd.R_slice hv
        have HV6 := Aside0.mk hv
        clear hb hv
        refine ⟨_, rfl, ?_⟩
        refine hK.out _ _ ⟨held, held, held⟩ (fun hHeld => ?_)
        clear hK K
        refine norm_ (a' := ?_) ?_ ?_
        rotate_left
        · show Act.put _ (some 64) _ = _
          simp only [Act.put, List.setIfInBounds_toArray, List.set_cons_zero, List.set_cons_succ, i64_w, i32_w]
          rfl
        refine pure_ (i := 18) (N := some 65) (v := ?_) (a' := ?_) #[true, true, true, true, true, true, true, true, true, true, true, true, true, true, true, true, true, true, true, false, false] rfl rfl (any_of HT_.out (by kernel_rfl)) (fun _ _ _ h => h) (Or.inl ⟨by rfl, ?_⟩) ?_ ?_
        rotate_left
        · intro w'
          go_simp
          with_reducible rfl
        rotate_left
        · simp only [Act.put, List.setIfInBounds_toArray, List.set_cons_zero, List.set_cons_succ, i64_w, i32_w]
          rfl
        refine last_ (i := 19) (N := none) #[true, true, true, true, true, true, true, true, true, true, true, true, true, true, true, true, true, true, true, true, false] rfl rfl (one_of HT_.out (by kernel_rfl)) (by decide) (fun K hK => ?_)
        refine box_skip (by rfl) rfl 24 (.tmp 6) (.tmp 65) rfl held #[.slice X4 (withS la p { y.l with f0 := ver }).length k4, .slice X5 (withS lb p { y.l with f0 := ver }).length k5, .slice X6 (withS lc p { y.l with f0 := ver }).length k6] rfl rfl info24 (by rfl) (by rfl) ?_
        intro w9 hx9 hg9
        have p9 := prev_row hg9
        have HZ := Aside0.mk hx9
        clear hx9 hg9
        refine hK.out _ _ ?_
        clear hK K
        refine pure_ (i := 20) (N := some 7) (v := ?_) (a' := ?_) #[true, true, true, true, true, true, true, true, true, true, true, true, true, true, true, true, true, true, true, true, true] rfl rfl (any_of HT_.out (by kernel_rfl)) (fun _ _ _ h => h) (Or.inl ⟨by rfl, ?_⟩) ?_ ?_
        rotate_left
        · intro w'
          go_simp
          with_reducible rfl
        rotate_left
        · simp only [Act.put, List.setIfInBounds_toArray, List.set_cons_zero, List.set_cons_succ, i64_w, i32_w]
          rfl
        refine done_ (done_of HT_.out (by kernel_rfl)) ?_
        go_wp2_with fail
        refine bodyPost_ret (results_row_tmp rfl _ _ (.int .i64 0) HZ.out rfl rfl Tryd.underlying24 rfl (by exact info24)) rfl ?_
        exact ⟨_, rfl, SideIn.ofRow (Row.ofR (rowX HV4.out)) (Row.ofR (rowX HV5.out)) (Row.ofR (rowX HV6.out)), bel _ _⟩
    · · rw [if_neg (fun h => absurd h.1 (by decide))] at hr
        subst hr
        go_wp2_with fail
        refine start_ (n := 13) (S := fun w' => w'.heap[w.heap.size]? = some (.cells #[.slice A la.length c, .slice B lb.length d, .slice C lc.length e] 24 (0, 0)) ∧ w'.heap[w.heap.size + 1]? = some (.cells #[.int .i64 2, .int .i64 u, .string p, .string q] 33 (0, 0)) ∧ w'.heap[w2.heap.size]? = some (.cells (A65 y) 65 (0, 0))) (ds := [11]) #[false, false, false, false, false, false, false, false, false, false, false, false, false] (by kernel_rfl) rfl rfl ⟨held, held, held⟩ (fun hHeld => ?_); refine with_tabW do14.tab14 do14.bits14 (fun HT_ HW_ => ?_)
        refine pure_ (i := 0) (N := some 68) (v := ?_) (a' := ?_) #[true, false, false, false, false, false, false, false, false, false, false, false, false] rfl rfl (any_of HT_.out (by kernel_rfl)) (fun _ _ _ h => h) (Or.inl ⟨by rfl, ?_⟩) ?_ ?_
        rotate_left
        · intro w'
          go_simp
          with_reducible rfl
        rotate_left
        · simp only [Act.put, List.setIfInBounds_toArray, List.set_cons_zero, List.set_cons_succ, i64_w, i32_w]
          rfl
        refine pure_ (i := 2) (N := some 70) (v := ?_) (a' := ?_) #[true, false, true, false, false, false, false, false, false, false, false, false, false] rfl rfl (any_of HT_.out (by kernel_rfl)) (fun _ _ _ h => h) (Or.inl ⟨by rfl, ?_⟩) ?_ ?_
        rotate_left
        · intro w'
          go_simp
          with_reducible rfl
        rotate_left
        · simp only [Act.put, List.setIfInBounds_toArray, List.set_cons_zero, List.set_cons_succ, i64_w, i32_w]
          rfl
        refine pure_ (i := 4) (N := some 72) (v := ?_) (a' := ?_) #[true, false, true, false, true, false, false, false, false, false, false, false, false] rfl rfl (any_of HT_.out (by kernel_rfl)) (fun _ _ _ h => h) (Or.inl ⟨by rfl, ?_⟩) ?_ ?_
        rotate_left
        · intro w'
          go_simp
          with_reducible rfl
        rotate_left
        · simp only [Act.put, List.setIfInBounds_toArray, List.set_cons_zero, List.set_cons_succ, i64_w, i32_w]
          rfl
        refine pure_ (i := 6) (N := some 74) (v := ?_) (a' := ?_) #[true, false, true, false, true, false, true, false, false, false, false, false, false] rfl rfl (any_of HT_.out (by kernel_rfl)) (fun _ _ _ h => h) (Or.inl ⟨by rfl, ?_⟩) ?_ ?_
        rotate_left
        · intro w'
          go_simp
          with_reducible rfl
        rotate_left
        · simp only [Act.put, List.setIfInBounds_toArray, List.set_cons_zero, List.set_cons_succ, i64_w, i32_w]
          rfl
        refine pure_ (i := 8) (N := some 76) (v := ?_) (a' := ?_) #[true, false, true, false, true, false, true, false, true, false, false, false, false] rfl rfl (any_of HT_.out (by kernel_rfl)) (fun _ _ _ h => h) (Or.inl ⟨by rfl, ?_⟩) ?_ ?_
        rotate_left
        · intro w'
          go_simp
          with_reducible rfl
        rotate_left
        · simp only [Act.put, List.setIfInBounds_toArray, List.set_cons_zero, List.set_cons_succ, i64_w, i32_w]
          rfl
        refine take_ (i := 1) (N := some 69) (v := ?_) (a' := ?_) #[true, true, true, false, true, false, true, false, true, false, false, false, false] rfl rfl (take_ofW HT_.out HW_.out (by kernel_rfl)) (fun _ _ _ h => h) (Or.inl ⟨by rfl, ?_⟩) hHeld ?_ ?_
        rotate_left
        · rintro w' ⟨s0, s1, s2⟩
          have i0 : Go.Proofs.YtjllbkeobibnkaaDoorK.Holds w' w.heap.size (.cells #[.slice A la.length c, .slice B lb.length d, .slice C lc.length e] 24) := ⟨s0⟩
          have i1 : Go.Proofs.YtjllbkeobibnkaaDoorK.Holds w' (w.heap.size + 1) (.cells #[.int .i64 2, .int .i64 u, .string p, .string q] 33) := ⟨s1⟩
          have i2 : Go.Proofs.YtjllbkeobibnkaaDoorK.Holds w' w2.heap.size (.cells (A65 y) 65) := ⟨s2⟩
          go_simp
          with_reducible rfl
        rotate_left
        · simp only [Act.put, List.setIfInBounds_toArray, List.set_cons_zero, List.set_cons_succ, i64_w, i32_w]
          rfl
        refine take_ (i := 5) (N := some 73) (v := ?_) (a' := ?_) #[true, true, true, false, true, true, true, false, true, false, false, false, false] rfl rfl (take_ofW HT_.out HW_.out (by kernel_rfl)) (fun _ _ _ h => h) (Or.inl ⟨by rfl, ?_⟩) hHeld ?_ ?_
        rotate_left
        · rintro w' ⟨s0, s1, s2⟩
          have i0 : Go.Proofs.YtjllbkeobibnkaaDoorK.Holds w' w.heap.size (.cells #[.slice A la.length c, .slice B lb.length d, .slice C lc.length e] 24) := ⟨s0⟩
          have i1 : Go.Proofs.YtjllbkeobibnkaaDoorK.Holds w' (w.heap.size + 1) (.cells #[.int .i64 2, .int .i64 u, .string p, .string q] 33) := ⟨s1⟩
          have i2 : Go.Proofs.YtjllbkeobibnkaaDoorK.Holds w' w2.heap.size (.cells (A65 y) 65) := ⟨s2⟩
          go_simp
          with_reducible rfl
        rotate_left
        · simp only [Act.put, List.setIfInBounds_toArray, List.set_cons_zero, List.set_cons_succ, i64_w, i32_w]
          rfl
        refine take_ (i := 7) (N := some 75) (v := ?_) (a' := ?_) #[true, true, true, false, true, true, true, true, true, false, false, false, false] rfl rfl (take_ofW HT_.out HW_.out (by kernel_rfl)) (fun _ _ _ h => h) (Or.inl ⟨by rfl, ?_⟩) hHeld ?_ ?_
        rotate_left
        · rintro w' ⟨s0, s1, s2⟩
          have i0 : Go.Proofs.YtjllbkeobibnkaaDoorK.Holds w' w.heap.size (.cells #[.slice A la.length c, .slice B lb.length d, .slice C lc.length e] 24) := ⟨s0⟩
          have i1 : Go.Proofs.YtjllbkeobibnkaaDoorK.Holds w' (w.heap.size + 1) (.cells #[.int .i64 2, .int .i64 u, .string p, .string q] 33) := ⟨s1⟩
          have i2 : Go.Proofs.YtjllbkeobibnkaaDoorK.Holds w' w2.heap.size (.cells (A65 y) 65) := ⟨s2⟩
          go_simp
          with_reducible rfl
        rotate_left
        · simp only [Act.put, List.setIfInBounds_toArray, List.set_cons_zero, List.set_cons_succ, i64_w, i32_w]
          rfl
        refine one_ (i := 3) (N := some 71) #[true, true, true, true, true, true, true, true, true, false, false, false, false] rfl rfl (one_of HT_.out (by kernel_rfl)) (by decide) (fun K hK => ?_)
        refine goes_ Tryd.func36 (by kernel_rfl) rfl #[.slice A la.length c, .string p] (by rfl) rfl rfl (by (try simp only [List.map_toArray, List.map_cons, List.map_nil]); first | done | rfl) ?_
        refine (HO0.out _ (bel _ _)).mono ?_
        rintro e4 w4 ⟨v4, rfl, hv, hb⟩
        have p4 := prev_call hb
        obtain ⟨X4, k4, rfl⟩ := Kd.R_slice hv
        have HV4 := Aside0.mk hv
        clear hb hv
        refine ⟨_, rfl, ?_⟩
        refine hK.out _ _ ⟨held, held, held⟩ (fun hHeld => ?_)
        clear hK K
        refine norm_ (a' := ?_) ?_ ?_
        rotate_left
        · show Act.put _ (some 71) _ = _
          simp only [Act.put, List.setIfInBounds_toArray, List.set_cons_zero, List.set_cons_succ, i64_w, i32_w]
          rfl
        refine one_ (i := 9) (N := some 77) #[true, true, true, true, true, true, true, true, true, true, false, false, false] rfl rfl (one_of HT_.out (by kernel_rfl)) (by decide) (fun K hK => ?_)
        refine goes_ Tryd.func36 (by kernel_rfl) rfl #[.slice C lc.length e, .string p] (by rfl) rfl rfl (by (try simp only [List.map_toArray, List.map_cons, List.map_nil]); first | done | rfl) ?_
        refine (HO2.out _ (bel _ _)).mono ?_
        rintro e5 w5 ⟨v5, rfl, hv, hb⟩
        have p5 := prev_call hb
        obtain ⟨X5, k5, rfl⟩ := Kd.R_slice hv
        have HV5 := Aside0.mk hv
        clear hb hv
        refine ⟨_, rfl, ?_⟩
        refine hK.out _ _ ⟨held, held, held⟩ (fun hHeld => ?_)
        clear hK K
        refine norm_ (a' := ?_) ?_ ?_
        rotate_left
        · show Act.put _ (some 77) _ = _
          simp only [Act.put, List.setIfInBounds_toArray, List.set_cons_zero, List.set_cons_succ, i64_w, i32_w]
          rfl
        refine pure_ (i := 10) (N := some 78) (v := ?_) (a' := ?_) #[true, true, true, true, true, true, true, true, true, true, true, false, false] rfl rfl (any_of HT_.out (by kernel_rfl)) (fun _ _ _ h => h) (Or.inl ⟨by rfl, ?_⟩) ?_ ?_
        rotate_left
        · intro w'
          go_simp
          with_reducible rfl
        rotate_left
        · simp only [Act.put, List.setIfInBounds_toArray, List.set_cons_zero, List.set_cons_succ, i64_w, i32_w]
          rfl
        refine last_ (i := 11) (N := none) #[true, true, true, true, true, true, true, true, true, true, true, true, false] rfl rfl (one_of HT_.out (by kernel_rfl)) (by decide) (fun K hK => ?_)
        refine box_skip (by rfl) rfl 24 (.tmp 6) (.tmp 78) rfl held #[.slice X4 (woS la p).length k4, .slice B lb.length d, .slice X5 (woS lc p).length k5] rfl rfl info24 (by rfl) (by rfl) ?_
        intro w9 hx9 hg9
        have p9 := prev_row hg9
        have HZ := Aside0.mk hx9
        clear hx9 hg9
        refine hK.out _ _ ?_
        clear hK K
        refine pure_ (i := 12) (N := some 7) (v := ?_) (a' := ?_) #[true, true, true, true, true, true, true, true, true, true, true, true, true] rfl rfl (any_of HT_.out (by kernel_rfl)) (fun _ _ _ h => h) (Or.inl ⟨by rfl, ?_⟩) ?_ ?_
        rotate_left
        · intro w'
          go_simp
          with_reducible rfl
        rotate_left
        · simp only [Act.put, List.setIfInBounds_toArray, List.set_cons_zero, List.set_cons_succ, i64_w, i32_w]
          rfl
        refine done_ (done_of HT_.out (by kernel_rfl)) ?_
        go_wp2_with fail
        refine bodyPost_ret (results_row_tmp rfl _ _ (.int .i64 0) HZ.out rfl rfl Tryd.underlying24 rfl (by exact info24)) rfl ?_
        exact ⟨_, rfl, SideIn.ofRow (Row.ofR (rowX HV4.out)) (Row.ofC (Kd.C_below HC1.out (bel w _)) l2) (Row.ofR (rowX HV5.out)), bel _ _⟩
    · · rw [if_neg (fun h => absurd h.1 (by decide))] at hr
        subst hr
        go_wp2_with fail
        refine start_ (n := 17) (S := fun w' => w'.heap[w.heap.size]? = some (.cells #[.slice A la.length c, .slice B lb.length d, .slice C lc.length e] 24 (0, 0)) ∧ w'.heap[w.heap.size + 1]? = some (.cells #[.int .i64 3, .int .i64 u, .string p, .string q] 33 (0, 0)) ∧ w'.heap[w2.heap.size]? = some (.cells (A65 y) 65 (0, 0))) (ds := [15]) #[false, false, false, false, false, false, false, false, false, false, false, false, false, false, false, false, false] (by kernel_rfl) rfl rfl ⟨held, held, held⟩ (fun hHeld => ?_); refine with_tabW do16.tab16 do16.bits16 (fun HT_ HW_ => ?_)
        refine pure_ (i := 0) (N := some 81) (v := ?_) (a' := ?_) #[true, false, false, false, false, false, false, false, false, false, false, false, false, false, false, false, false] rfl rfl (any_of HT_.out (by kernel_rfl)) (fun _ _ _ h => h) (Or.inl ⟨by rfl, ?_⟩) ?_ ?_
        rotate_left
        · intro w'
          go_simp
          with_reducible rfl
        rotate_left
        · simp only [Act.put, List.setIfInBounds_toArray, List.set_cons_zero, List.set_cons_succ, i64_w, i32_w]
          rfl
        refine pure_ (i := 2) (N := some 83) (v := ?_) (a' := ?_) #[true, false, true, false, false, false, false, false, false, false, false, false, false, false, false, false, false] rfl rfl (any_of HT_.out (by kernel_rfl)) (fun _ _ _ h => h) (Or.inl ⟨by rfl, ?_⟩) ?_ ?_
        rotate_left
        · intro w'
          go_simp
          with_reducible rfl
        rotate_left
        · simp only [Act.put, List.setIfInBounds_toArray, List.set_cons_zero, List.set_cons_succ, i64_w, i32_w]
          rfl
        refine pure_ (i := 3) (N := some 84) (v := ?_) (a' := ?_) #[true, false, true, true, false, false, false, false, false, false, false, false, false, false, false, false, false] rfl rfl (any_of HT_.out (by kernel_rfl)) (fun _ _ _ h => h) (Or.inl ⟨by rfl, ?_⟩) ?_ ?_
        rotate_left
        · intro w'
          go_simp
          with_reducible rfl
        rotate_left
        · simp only [Act.put, List.setIfInBounds_toArray, List.set_cons_zero, List.set_cons_succ, i64_w, i32_w]
          rfl
        refine pure_ (i := 6) (N := some 87) (v := ?_) (a' := ?_) #[true, false, true, true, false, false, true, false, false, false, false, false, false, false, false, false, false] rfl rfl (any_of HT_.out (by kernel_rfl)) (fun _ _ _ h => h) (Or.inl ⟨by rfl, ?_⟩) ?_ ?_
        rotate_left
        · intro w'
          go_simp
          with_reducible rfl
        rotate_left
        · simp only [Act.put, List.setIfInBounds_toArray, List.set_cons_zero, List.set_cons_succ, i64_w, i32_w]
          rfl
        refine pure_ (i := 8) (N := some 89) (v := ?_) (a' := ?_) #[true, false, true, true, false, false, true, false, true, false, false, false, false, false, false, false, false] rfl rfl (any_of HT_.out (by kernel_rfl)) (fun _ _ _ h => h) (Or.inl ⟨by rfl, ?_⟩) ?_ ?_
        rotate_left
        · intro w'
          go_simp
          with_reducible rfl
        rotate_left
        · simp only [Act.put, List.setIfInBounds_toArray, List.set_cons_zero, List.set_cons_succ, i64_w, i32_w]
          rfl
        refine pure_ (i := 9) (N := some 90) (v := ?_) (a' := ?_) #[true, false, true, true, false, false, true, false, true, true, false, false, false, false, false, false, false] rfl rfl (any_of HT_.out (by kernel_rfl)) (fun _ _ _ h => h) (Or.inl ⟨by rfl, ?_⟩) ?_ ?_
        rotate_left
        · intro w'
          go_simp
          with_reducible rfl
        rotate_left
        · simp only [Act.put, List.setIfInBounds_toArray, List.set_cons_zero, List.set_cons_succ, i64_w, i32_w]
          rfl
        refine pure_ (i := 12) (N := some 93) (v := ?_) (a' := ?_) #[true, false, true, true, false, false, true, false, true, true, false, false, true, false, false, false, false] rfl rfl (any_of HT_.out (by kernel_rfl)) (fun _ _ _ h => h) (Or.inl ⟨by rfl, ?_⟩) ?_ ?_
        rotate_left
        · intro w'
          go_simp
          with_reducible rfl
        rotate_left
        · simp only [Act.put, List.setIfInBounds_toArray, List.set_cons_zero, List.set_cons_succ, i64_w, i32_w]
          rfl
        refine take_ (i := 1) (N := some 82) (v := ?_) (a' := ?_) #[true, true, true, true, false, false, true, false, true, true, false, false, true, false, false, false, false] rfl rfl (take_ofW HT_.out HW_.out (by kernel_rfl)) (fun _ _ _ h => h) (Or.inl ⟨by rfl, ?_⟩) hHeld ?_ ?_
        rotate_left
        · rintro w' ⟨s0, s1, s2⟩
          have i0 : Go.Proofs.YtjllbkeobibnkaaDoorK.Holds w' w.heap.size (.cells #[.slice A la.length c, .slice B lb.length d, .slice C lc.length e] 24) := ⟨s0⟩
          have i1 : Go.Proofs.YtjllbkeobibnkaaDoorK.Holds w' (w.heap.size + 1) (.cells #[.int .i64 3, .int .i64 u, .string p, .string q] 33) := ⟨s1⟩
          have i2 : Go.Proofs.YtjllbkeobibnkaaDoorK.Holds w' w2.heap.size (.cells (A65 y) 65) := ⟨s2⟩
          go_simp
          with_reducible rfl
        rotate_left
        · simp only [Act.put, List.setIfInBounds_toArray, List.set_cons_zero, List.set_cons_succ, i64_w, i32_w]
          rfl
        refine take_ (i := 4) (N := some 85) (v := ?_) (a' := ?_) #[true, true, true, true, true, false, true, false, true, true, false, false, true, false, false, false, false] rfl rfl (take_ofW HT_.out HW_.out (by kernel_rfl)) (fun _ _ _ h => h) (Or.inl ⟨by rfl, ?_⟩) hHeld ?_ ?_
        rotate_left
        · rintro w' ⟨s0, s1, s2⟩
          have i0 : Go.Proofs.YtjllbkeobibnkaaDoorK.Holds w' w.heap.size (.cells #[.slice A la.length c, .slice B lb.length d, .slice C lc.length e] 24) := ⟨s0⟩
          have i1 : Go.Proofs.YtjllbkeobibnkaaDoorK.Holds w' (w.heap.size + 1) (.cells #[.int .i64 3, .int .i64 u, .string p, .string q] 33) := ⟨s1⟩
          have i2 : Go.Proofs.YtjllbkeobibnkaaDoorK.Holds w' w2.heap.size (.cells (A65 y) 65) := ⟨s2⟩
          go_simp
          with_reducible rfl
        rotate_left
        · simp only [Act.put, List.setIfInBounds_toArray, List.set_cons_zero, List.set_cons_succ, i64_w, i32_w]
          rfl
        refine take_ (i := 7) (N := some 88) (v := ?_) (a' := ?_) #[true, true, true, true, true, false, true, true, true, true, false, false, true, false, false, false, false] rfl rfl (take_ofW HT_.out HW_.out (by kernel_rfl)) (fun _ _ _ h => h) (Or.inl ⟨by rfl, ?_⟩) hHeld ?_ ?_
        rotate_left
        · rintro w' ⟨s0, s1, s2⟩
          have i0 : Go.Proofs.YtjllbkeobibnkaaDoorK.Holds w' w.heap.size (.cells #[.slice A la.length c, .slice B lb.length d, .slice C lc.length e] 24) := ⟨s0⟩
          have i1 : Go.Proofs.YtjllbkeobibnkaaDoorK.Holds w' (w.heap.size + 1) (.cells #[.int .i64 3, .int .i64 u, .string p, .string q] 33) := ⟨s1⟩
          have i2 : Go.Proofs.YtjllbkeobibnkaaDoorK.Holds w' w2.heap.size (.cells (A65 y) 65) := ⟨s2⟩
          go_simp
          with_reducible rfl
        rotate_left
        · simp only [Act.put, List.setIfInBounds_toArray, List.set_cons_zero, List.set_cons_succ, i64_w, i32_w]
          rfl
        refine take_ (i := 10) (N := some 91) (v := ?_) (a' := ?_) #[true, true, true, true, true, false, true, true, true, true, true, false, true, false, false, false, false] rfl rfl (take_ofW HT_.out HW_.out (by kernel_rfl)) (fun _ _ _ h => h) (Or.inl ⟨by rfl, ?_⟩) hHeld ?_ ?_
        rotate_left
        · rintro w' ⟨s0, s1, s2⟩
          have i0 : Go.Proofs.YtjllbkeobibnkaaDoorK.Holds w' w.heap.size (.cells #[.slice A la.length c, .slice B lb.length d, .slice C lc.length e] 24) := ⟨s0⟩
          have i1 : Go.Proofs.YtjllbkeobibnkaaDoorK.Holds w' (w.heap.size + 1) (.cells #[.int .i64 3, .int .i64 u, .string p, .string q] 33) := ⟨s1⟩
          have i2 : Go.Proofs.YtjllbkeobibnkaaDoorK.Holds w' w2.heap.size (.cells (A65 y) 65) := ⟨s2⟩
          go_simp
          with_reducible rfl
        rotate_left
        · simp only [Act.put, List.setIfInBounds_toArray, List.set_cons_zero, List.set_cons_succ, i64_w, i32_w]
          rfl
        refine take_ (i := 13) (N := some 94) (v := ?_) (a' := ?_) #[true, true, true, true, true, false, true, true, true, true, true, false, true, true, false, false, false] rfl rfl (take_ofW HT_.out HW_.out (by kernel_rfl)) (fun _ _ _ h => h) (Or.inl ⟨by rfl, ?_⟩) hHeld ?_ ?_
        rotate_left
        · rintro w' ⟨s0, s1, s2⟩
          have i0 : Go.Proofs.YtjllbkeobibnkaaDoorK.Holds w' w.heap.size (.cells #[.slice A la.length c, .slice B lb.length d, .slice C lc.length e] 24) := ⟨s0⟩
          have i1 : Go.Proofs.YtjllbkeobibnkaaDoorK.Holds w' (w.heap.size + 1) (.cells #[.int .i64 3, .int .i64 u, .string p, .string q] 33) := ⟨s1⟩
          have i2 : Go.Proofs.YtjllbkeobibnkaaDoorK.Holds w' w2.heap.size (.cells (A65 y) 65) := ⟨s2⟩
          go_simp
          with_reducible rfl
        rotate_left
        · simp only [Act.put, List.setIfInBounds_toArray, List.set_cons_zero, List.set_cons_succ, i64_w, i32_w]
          rfl
        refine one_ (i := 5) (N := some 86) #[true, true, true, true, true, true, true, true, true, true, true, false, true, true, false, false, false] rfl rfl (one_of HT_.out (by kernel_rfl)) (by decide) (fun K hK => ?_)
        refine goes_ Tryd.func35 (by kernel_rfl) rfl #[.slice A la.length c, .string p, .agg (A51 y.r)] (by rfl) rfl rfl (by (try simp only [List.map_toArray, List.map_cons, List.map_nil]); first | done | rfl) ?_
        refine (HW0.out _ (bel _ _) (y.r)).mono ?_
        rintro e4 w4 ⟨v4, rfl, hv, hb⟩
        have p4 := prev_call hb
        obtain ⟨X4, k4, rfl⟩ := Kd.R_slice hv
        have HV4 := Aside0.mk hv
        clear hb hv
        refine ⟨_, rfl, ?_⟩
        refine hK.out _ _ ⟨held, held, held⟩ (fun hHeld => ?_)
        clear hK K
        refine norm_ (a' := ?_) ?_ ?_
        rotate_left
        · show Act.put _ (some 86) _ = _
          simp only [Act.put, List.setIfInBounds_toArray, List.set_cons_zero, List.set_cons_succ, i64_w, i32_w]
          rfl
        refine one_ (i := 11) (N := some 92) #[true, true, true, true, true, true, true, true, true, true, true, true, true, true, false, false, false] rfl rfl (one_of HT_.out (by kernel_rfl)) (by decide) (fun K hK => ?_)
        refine goes_ Tryd.func35 (by kernel_rfl) rfl #[.slice B lb.length d, .string p, .agg (A51 y.r)] (by rfl) rfl rfl (by (try simp only [List.map_toArray, List.map_cons, List.map_nil]); first | done | rfl) ?_
        refine (HW1.out _ (bel _ _) (y.r)).mono ?_
        rintro e5 w5 ⟨v5, rfl, hv, hb⟩
        have p5 := prev_call hb
        obtain ⟨X5, k5, rfl⟩ := Kd.R_slice hv
        have HV5 := Aside0.mk hv
        clear hb hv
        refine ⟨_, rfl, ?_⟩
        refine hK.out _ _ ⟨held, held, held⟩ (fun hHeld => ?_)
        clear hK K
        refine norm_ (a' := ?_) ?_ ?_
        rotate_left
        · show Act.put _ (some 92) _ = _
          simp only [Act.put, List.setIfInBounds_toArray, List.set_cons_zero, List.set_cons_succ, i64_w, i32_w]
          rfl
        refine pure_ (i := 14) (N := some 95) (v := ?_) (a' := ?_) #[true, true, true, true, true, true, true, true, true, true, true, true, true, true, true, false, false] rfl rfl (any_of HT_.out (by kernel_rfl)) (fun _ _ _ h => h) (Or.inl ⟨by rfl, ?_⟩) ?_ ?_
        rotate_left
        · intro w'
          go_simp
          with_reducible rfl
        rotate_left
        · simp only [Act.put, List.setIfInBounds_toArray, List.set_cons_zero, List.set_cons_succ, i64_w, i32_w]
          rfl
        refine last_ (i := 15) (N := none) #[true, true, true, true, true, true, true, true, true, true, true, true, true, true, true, true, false] rfl rfl (one_of HT_.out (by kernel_rfl)) (by decide) (fun K hK => ?_)
        refine box_skip (by rfl) rfl 24 (.tmp 6) (.tmp 95) rfl held #[.slice X4 (withS la p y.r).length k4, .slice X5 (withS lb p y.r).length k5, .slice C lc.length e] rfl rfl info24 (by rfl) (by rfl) ?_
        intro w9 hx9 hg9
        have p9 := prev_row hg9
        have HZ := Aside0.mk hx9
        clear hx9 hg9
        refine hK.out _ _ ?_
        clear hK K
        refine pure_ (i := 16) (N := some 7) (v := ?_) (a' := ?_) #[true, true, true, true, true, true, true, true, true, true, true, true, true, true, true, true, true] rfl rfl (any_of HT_.out (by kernel_rfl)) (fun _ _ _ h => h) (Or.inl ⟨by rfl, ?_⟩) ?_ ?_
        rotate_left
        · intro w'
          go_simp
          with_reducible rfl
        rotate_left
        · simp only [Act.put, List.setIfInBounds_toArray, List.set_cons_zero, List.set_cons_succ, i64_w, i32_w]
          rfl
        refine done_ (done_of HT_.out (by kernel_rfl)) ?_
        go_wp2_with fail
        refine bodyPost_ret (results_row_tmp rfl _ _ (.int .i64 0) HZ.out rfl rfl Tryd.underlying24 rfl (by exact info24)) rfl ?_
        exact ⟨_, rfl, SideIn.ofRow (Row.ofR (rowX HV4.out)) (Row.ofR (rowX HV5.out)) (Row.ofC (Kd.C_below HC2.out (bel w _)) l3), bel _ _⟩
    · · rw [if_neg (fun h => absurd h.1 (by decide))] at hr
        subst hr
        go_wp2_with fail
        refine start_ (n := 13) (S := fun w' => w'.heap[w.heap.size]? = some (.cells #[.slice A la.length c, .slice B lb.length d, .slice C lc.length e] 24 (0, 0)) ∧ w'.heap[w.heap.size + 1]? = some (.cells #[.int .i64 4, .int .i64 u, .string p, .string q] 33 (0, 0)) ∧ w'.heap[w2.heap.size]? = some (.cells (A65 y) 65 (0, 0))) (ds := [11]) #[false, false, false, false, false, false, false, false, false, false, false, false, false] (by kernel_rfl) rfl rfl ⟨held, held, held⟩ (fun hHeld => ?_); refine with_tabW do18.tab18 do18.bits18 (fun HT_ HW_ => ?_)
        refine pure_ (i := 0) (N := some 98) (v := ?_) (a' := ?_) #[true, false, false, false, false, false, false, false, false, false, false, false, false] rfl rfl (any_of HT_.out (by kernel_rfl)) (fun _ _ _ h => h) (Or.inl ⟨by rfl, ?_⟩) ?_ ?_
        rotate_left
        · intro w'
          go_simp
          with_reducible rfl
        rotate_left
        · simp only [Act.put, List.setIfInBounds_toArray, List.set_cons_zero, List.set_cons_succ, i64_w, i32_w]
          rfl
        refine pure_ (i := 2) (N := some 100) (v := ?_) (a' := ?_) #[true, false, true, false, false, false, false, false, false, false, false, false, false] rfl rfl (any_of HT_.out (by kernel_rfl)) (fun _ _ _ h => h) (Or.inl ⟨by rfl, ?_⟩) ?_ ?_
        rotate_left
        · intro w'
          go_simp
          with_reducible rfl
        rotate_left
        · simp only [Act.put, List.setIfInBounds_toArray, List.set_cons_zero, List.set_cons_succ, i64_w, i32_w]
          rfl
        refine pure_ (i := 4) (N := some 102) (v := ?_) (a' := ?_) #[true, false, true, false, true, false, false, false, false, false, false, false, false] rfl rfl (any_of HT_.out (by kernel_rfl)) (fun _ _ _ h => h) (Or.inl ⟨by rfl, ?_⟩) ?_ ?_
        rotate_left
        · intro w'
          go_simp
          with_reducible rfl
        rotate_left
        · simp only [Act.put, List.setIfInBounds_toArray, List.set_cons_zero, List.set_cons_succ, i64_w, i32_w]
          rfl
        refine pure_ (i := 6) (N := some 104) (v := ?_) (a' := ?_) #[true, false, true, false, true, false, true, false, false, false, false, false, false] rfl rfl (any_of HT_.out (by kernel_rfl)) (fun _ _ _ h => h) (Or.inl ⟨by rfl, ?_⟩) ?_ ?_
        rotate_left
        · intro w'
          go_simp
          with_reducible rfl
        rotate_left
        · simp only [Act.put, List.setIfInBounds_toArray, List.set_cons_zero, List.set_cons_succ, i64_w, i32_w]
          rfl
        refine pure_ (i := 8) (N := some 106) (v := ?_) (a' := ?_) #[true, false, true, false, true, false, true, false, true, false, false, false, false] rfl rfl (any_of HT_.out (by kernel_rfl)) (fun _ _ _ h => h) (Or.inl ⟨by rfl, ?_⟩) ?_ ?_
        rotate_left
        · intro w'
          go_simp
          with_reducible rfl
        rotate_left
        · simp only [Act.put, List.setIfInBounds_toArray, List.set_cons_zero, List.set_cons_succ, i64_w, i32_w]
          rfl
        refine take_ (i := 1) (N := some 99) (v := ?_) (a' := ?_) #[true, true, true, false, true, false, true, false, true, false, false, false, false] rfl rfl (take_ofW HT_.out HW_.out (by kernel_rfl)) (fun _ _ _ h => h) (Or.inl ⟨by rfl, ?_⟩) hHeld ?_ ?_
        rotate_left
        · rintro w' ⟨s0, s1, s2⟩
          have i0 : Go.Proofs.YtjllbkeobibnkaaDoorK.Holds w' w.heap.size (.cells #[.slice A la.length c, .slice B lb.length d, .slice C lc.length e] 24) := ⟨s0⟩
          have i1 : Go.Proofs.YtjllbkeobibnkaaDoorK.Holds w' (w.heap.size + 1) (.cells #[.int .i64 4, .int .i64 u, .string p, .string q] 33) := ⟨s1⟩
          have i2 : Go.Proofs.YtjllbkeobibnkaaDoorK.Holds w' w2.heap.size (.cells (A65 y) 65) := ⟨s2⟩
          go_simp
          with_reducible rfl
        rotate_left
        · simp only [Act.put, List.setIfInBounds_toArray, List.set_cons_zero, List.set_cons_succ, i64_w, i32_w]
          rfl
        refine take_ (i := 5) (N := some 103) (v := ?_) (a' := ?_) #[true, true, true, false, true, true, true, false, true, false, false, false, false] rfl rfl (take_ofW HT_.out HW_.out (by kernel_rfl)) (fun _ _ _ h => h) (Or.inl ⟨by rfl, ?_⟩) hHeld ?_ ?_
        rotate_left
        · rintro w' ⟨s0, s1, s2⟩
          have i0 : Go.Proofs.YtjllbkeobibnkaaDoorK.Holds w' w.heap.size (.cells #[.slice A la.length c, .slice B lb.length d, .slice C lc.length e] 24) := ⟨s0⟩
          have i1 : Go.Proofs.YtjllbkeobibnkaaDoorK.Holds w' (w.heap.size + 1) (.cells #[.int .i64 4, .int .i64 u, .string p, .string q] 33) := ⟨s1⟩
          have i2 : Go.Proofs.YtjllbkeobibnkaaDoorK.Holds w' w2.heap.size (.cells (A65 y) 65) := ⟨s2⟩
          go_simp
          with_reducible rfl
        rotate_left
        · simp only [Act.put, List.setIfInBounds_toArray, List.set_cons_zero, List.set_cons_succ, i64_w, i32_w]
          rfl
        refine take_ (i := 9) (N := some 107) (v := ?_) (a' := ?_) #[true, true, true, false, true, true, true, false, true, true, false, false, false] rfl rfl (take_ofW HT_.out HW_.out (by kernel_rfl)) (fun _ _ _ h => h) (Or.inl ⟨by rfl, ?_⟩) hHeld ?_ ?_
        rotate_left
        · rintro w' ⟨s0, s1, s2⟩
          have i0 : Go.Proofs.YtjllbkeobibnkaaDoorK.Holds w' w.heap.size (.cells #[.slice A la.length c, .slice B lb.length d, .slice C lc.length e] 24) := ⟨s0⟩
          have i1 : Go.Proofs.YtjllbkeobibnkaaDoorK.Holds w' (w.heap.size + 1) (.cells #[.int .i64 4, .int .i64 u, .string p, .string q] 33) := ⟨s1⟩
          have i2 : Go.Proofs.YtjllbkeobibnkaaDoorK.Holds w' w2.heap.size (.cells (A65 y) 65) := ⟨s2⟩
          go_simp
          with_reducible rfl
        rotate_left
        · simp only [Act.put, List.setIfInBounds_toArray, List.set_cons_zero, List.set_cons_succ, i64_w, i32_w]
          rfl
        refine one_ (i := 3) (N := some 101) #[true, true, true, true, true, true, true, false, true, true, false, false, false] rfl rfl (one_of HT_.out (by kernel_rfl)) (by decide) (fun K hK => ?_)
        refine goes_ Tryd.func36 (by kernel_rfl) rfl #[.slice A la.length c, .string p] (by rfl) rfl rfl (by (try simp only [List.map_toArray, List.map_cons, List.map_nil]); first | done | rfl) ?_
        refine (HO0.out _ (bel _ _)).mono ?_
        rintro e4 w4 ⟨v4, rfl, hv, hb⟩
        have p4 := prev_call hb
        obtain ⟨X4, k4, rfl⟩ := Kd.R_slice hv
        have HV4 := Aside0.mk hv
        clear hb hv
        refine ⟨_, rfl, ?_⟩
        refine hK.out _ _ ⟨held, held, held⟩ (fun hHeld => ?_)
        clear hK K
        refine norm_ (a' := ?_) ?_ ?_
        rotate_left
        · show Act.put _ (some 101) _ = _
          simp only [Act.put, List.setIfInBounds_toArray, List.set_cons_zero, List.set_cons_succ, i64_w, i32_w]
          rfl
        refine one_ (i := 7) (N := some 105) #[true, true, true, true, true, true, true, true, true, true, false, false, false] rfl rfl (one_of HT_.out (by kernel_rfl)) (by decide) (fun K hK => ?_)
        refine goes_ Tryd.func36 (by kernel_rfl) rfl #[.slice B lb.length d, .string p] (by rfl) rfl rfl (by (try simp only [List.map_toArray, List.map_cons, List.map_nil]); first | done | rfl) ?_
        refine (HO1.out _ (bel _ _)).mono ?_
        rintro e5 w5 ⟨v5, rfl, hv, hb⟩
        have p5 := prev_call hb
        obtain ⟨X5, k5, rfl⟩ := Kd.R_slice hv
        have HV5 := Aside0.mk hv
        clear hb hv
        refine ⟨_, rfl, ?_⟩
        refine hK.out _ _ ⟨held, held, held⟩ (fun hHeld => ?_)
        clear hK K
        refine norm_ (a' := ?_) ?_ ?_
        rotate_left
        · show Act.put _ (some 105) _ = _
          simp only [Act.put, List.setIfInBounds_toArray, List.set_cons_zero, List.set_cons_succ, i64_w, i32_w]
          rfl
        refine pure_ (i := 10) (N := some 108) (v := ?_) (a' := ?_) #[true, true, true, true, true, true, true, true, true, true, true, false, false] rfl rfl (any_of HT_.out (by kernel_rfl)) (fun _ _ _ h => h) (Or.inl ⟨by rfl, ?_⟩) ?_ ?_
        rotate_left
        · intro w'
          go_simp
          with_reducible rfl
        rotate_left
        · simp only [Act.put, List.setIfInBounds_toArray, List.set_cons_zero, List.set_cons_succ, i64_w, i32_w]
          rfl
        refine last_ (i := 11) (N := none) #[true, true, true, true, true, true, true, true, true, true, true, true, false] rfl rfl (one_of HT_.out (by kernel_rfl)) (by decide) (fun K hK => ?_)
        refine box_skip (by rfl) rfl 24 (.tmp 6) (.tmp 108) rfl held #[.slice X4 (woS la p).length k4, .slice X5 (woS lb p).length k5, .slice C lc.length e] rfl rfl info24 (by rfl) (by rfl) ?_
        intro w9 hx9 hg9
        have p9 := prev_row hg9
        have HZ := Aside0.mk hx9
        clear hx9 hg9
        refine hK.out _ _ ?_
        clear hK K
        refine pure_ (i := 12) (N := some 7) (v := ?_) (a' := ?_) #[true, true, true, true, true, true, true, true, true, true, true, true, true] rfl rfl (any_of HT_.out (by kernel_rfl)) (fun _ _ _ h => h) (Or.inl ⟨by rfl, ?_⟩) ?_ ?_
        rotate_left
        · intro w'
          go_simp
          with_reducible rfl
        rotate_left
        · simp only [Act.put, List.setIfInBounds_toArray, List.set_cons_zero, List.set_cons_succ, i64_w, i32_w]
          rfl
        refine done_ (done_of HT_.out (by kernel_rfl)) ?_
        go_wp2_with fail
        refine bodyPost_ret (results_row_tmp rfl _ _ (.int .i64 0) HZ.out rfl rfl Tryd.underlying24 rfl (by exact info24)) rfl ?_
        exact ⟨_, rfl, SideIn.ofRow (Row.ofR (rowX HV4.out)) (Row.ofR (rowX HV5.out)) (Row.ofC (Kd.C_below HC2.out (bel w _)) l3), bel _ _⟩
    · · rw [if_neg (fun h => absurd h.1 (by decide))] at hr
        subst hr
        go_wp2_with fail
        refine start_ (n := 17) (S := fun w' => w'.heap[w.heap.size]? = some (.cells #[.slice A la.length c, .slice B lb.length d, .slice C lc.length e] 24 (0, 0)) ∧ w'.heap[w.heap.size + 1]? = some (.cells #[.int .i64 5, .int .i64 u, .string p, .string q] 33 (0, 0)) ∧ w'.heap[w2.heap.size]? = some (.cells (A65 { y with l := { y.l with f0 := y.r.f0 } }) 65 (0, 0))) (ds := [15]) #[false, false, false, false, false, false, false, false, false, false, false, false, false, false, false, false, false] (by kernel_rfl) rfl rfl ⟨held, held, held⟩ (fun hHeld => ?_); refine with_tabW do21.tab21 do21.bits21 (fun HT_ HW_ => ?_)
        refine pure_ (i := 0) (N := some 116) (v := ?_) (a' := ?_) #[true, false, false, false, false, false, false, false, false, false, false, false, false, false, false, false, false] rfl rfl (any_of HT_.out (by kernel_rfl)) (fun _ _ _ h => h) (Or.inl ⟨by rfl, ?_⟩) ?_ ?_
        rotate_left
        · intro w'
          go_simp
          with_reducible rfl
        rotate_left
        · simp only [Act.put, List.setIfInBounds_toArray, List.set_cons_zero, List.set_cons_succ, i64_w, i32_w]
          rfl
        refine pure_ (i := 2) (N := some 118) (v := ?_) (a' := ?_) #[true, false, true, false, false, false, false, false, false, false, false, false, false, false, false, false, false] rfl rfl (any_of HT_.out (by kernel_rfl)) (fun _ _ _ h => h) (Or.inl ⟨by rfl, ?_⟩) ?_ ?_
        rotate_left
        · intro w'
          go_simp
          with_reducible rfl
        rotate_left
        · simp only [Act.put, List.setIfInBounds_toArray, List.set_cons_zero, List.set_cons_succ, i64_w, i32_w]
          rfl
        refine pure_ (i := 3) (N := some 119) (v := ?_) (a' := ?_) #[true, false, true, true, false, false, false, false, false, false, false, false, false, false, false, false, false] rfl rfl (any_of HT_.out (by kernel_rfl)) (fun _ _ _ h => h) (Or.inl ⟨by rfl, ?_⟩) ?_ ?_
        rotate_left
        · intro w'
          go_simp
          with_reducible rfl
        rotate_left
        · simp only [Act.put, List.setIfInBounds_toArray, List.set_cons_zero, List.set_cons_succ, i64_w, i32_w]
          rfl
        refine pure_ (i := 6) (N := some 122) (v := ?_) (a' := ?_) #[true, false, true, true, false, false, true, false, false, false, false, false, false, false, false, false, false] rfl rfl (any_of HT_.out (by kernel_rfl)) (fun _ _ _ h => h) (Or.inl ⟨by rfl, ?_⟩) ?_ ?_
        rotate_left
        · intro w'
          go_simp
          with_reducible rfl
        rotate_left
        · simp only [Act.put, List.setIfInBounds_toArray, List.set_cons_zero, List.set_cons_succ, i64_w, i32_w]
          rfl
        refine pure_ (i := 8) (N := some 124) (v := ?_) (a' := ?_) #[true, false, true, true, false, false, true, false, true, false, false, false, false, false, false, false, false] rfl rfl (any_of HT_.out (by kernel_rfl)) (fun _ _ _ h => h) (Or.inl ⟨by rfl, ?_⟩) ?_ ?_
        rotate_left
        · intro w'
          go_simp
          with_reducible rfl
        rotate_left
        · simp only [Act.put, List.setIfInBounds_toArray, List.set_cons_zero, List.set_cons_succ, i64_w, i32_w]
          rfl
        refine pure_ (i := 9) (N := some 125) (v := ?_) (a' := ?_) #[true, false, true, true, false, false, true, false, true, true, false, false, false, false, false, false, false] rfl rfl (any_of HT_.out (by kernel_rfl)) (fun _ _ _ h => h) (Or.inl ⟨by rfl, ?_⟩) ?_ ?_
        rotate_left
        · intro w'
          go_simp
          with_reducible rfl
        rotate_left
        · simp only [Act.put, List.setIfInBounds_toArray, List.set_cons_zero, List.set_cons_succ, i64_w, i32_w]
          rfl
        refine pure_ (i := 12) (N := some 128) (v := ?_) (a' := ?_) #[true, false, true, true, false, false, true, false, true, true, false, false, true, false, false, false, false] rfl rfl (any_of HT_.out (by kernel_rfl)) (fun _ _ _ h => h) (Or.inl ⟨by rfl, ?_⟩) ?_ ?_
        rotate_left
        · intro w'
          go_simp
          with_reducible rfl
        rotate_left
        · simp only [Act.put, List.setIfInBounds_toArray, List.set_cons_zero, List.set_cons_succ, i64_w, i32_w]
          rfl
        refine take_ (i := 1) (N := some 117) (v := ?_) (a' := ?_) #[true, true, true, true, false, false, true, false, true, true, false, false, true, false, false, false, false] rfl rfl (take_ofW HT_.out HW_.out (by kernel_rfl)) (fun _ _ _ h => h) (Or.inl ⟨by rfl, ?_⟩) hHeld ?_ ?_
        rotate_left
        · rintro w' ⟨s0, s1, s2⟩
          have i0 : Go.Proofs.YtjllbkeobibnkaaDoorK.Holds w' w.heap.size (.cells #[.slice A la.length c, .slice B lb.length d, .slice C lc.length e] 24) := ⟨s0⟩
          have i1 : Go.Proofs.YtjllbkeobibnkaaDoorK.Holds w' (w.heap.size + 1) (.cells #[.int .i64 5, .int .i64 u, .string p, .string q] 33) := ⟨s1⟩
          have i2 : Go.Proofs.YtjllbkeobibnkaaDoorK.Holds w' w2.heap.size (.cells (A65 { y with l := { y.l with f0 := y.r.f0 } }) 65) := ⟨s2⟩
          go_simp
          with_reducible rfl
        rotate_left
        · simp only [Act.put, List.setIfInBounds_toArray, List.set_cons_zero, List.set_cons_succ, i64_w, i32_w]
          rfl
        refine take_ (i := 4) (N := some 120) (v := ?_) (a' := ?_) #[true, true, true, true, true, false, true, false, true, true, false, false, true, false, false, false, false] rfl rfl (take_ofW HT_.out HW_.out (by kernel_rfl)) (fun _ _ _ h => h) (Or.inl ⟨by rfl, ?_⟩) hHeld ?_ ?_
        rotate_left
        · rintro w' ⟨s0, s1, s2⟩
          have i0 : Go.Proofs.YtjllbkeobibnkaaDoorK.Holds w' w.heap.size (.cells #[.slice A la.length c, .slice B lb.length d, .slice C lc.length e] 24) := ⟨s0⟩
          have i1 : Go.Proofs.YtjllbkeobibnkaaDoorK.Holds w' (w.heap.size + 1) (.cells #[.int .i64 5, .int .i64 u, .string p, .string q] 33) := ⟨s1⟩
          have i2 : Go.Proofs.YtjllbkeobibnkaaDoorK.Holds w' w2.heap.size (.cells (A65 { y with l := { y.l with f0 := y.r.f0 } }) 65) := ⟨s2⟩
          go_simp
          with_reducible rfl
        rotate_left
        · simp only [Act.put, List.setIfInBounds_toArray, List.set_cons_zero, List.set_cons_succ, i64_w, i32_w]
          rfl
        refine take_ (i := 7) (N := some 123) (v := ?_) (a' := ?_) #[true, true, true, true, true, false, true, true, true, true, false, false, true, false, false, false, false] rfl rfl (take_ofW HT_.out HW_.out (by kernel_rfl)) (fun _ _ _ h => h) (Or.inl ⟨by rfl, ?_⟩) hHeld ?_ ?_
        rotate_left
        · rintro w' ⟨s0, s1, s2⟩
          have i0 : Go.Proofs.YtjllbkeobibnkaaDoorK.Holds w' w.heap.size (.cells #[.slice A la.length c, .slice B lb.length d, .slice C lc.length e] 24) := ⟨s0⟩
          have i1 : Go.Proofs.YtjllbkeobibnkaaDoorK.Holds w' (w.heap.size + 1) (.cells #[.int .i64 5, .int .i64 u, .string p, .string q] 33) := ⟨s1⟩
          have i2 : Go.Proofs.YtjllbkeobibnkaaDoorK.Holds w' w2.heap.size (.cells (A65 { y with l := { y.l with f0 := y.r.f0 } }) 65) := ⟨s2⟩
          go_simp
          with_reducible rfl
        rotate_left
        · simp only [Act.put, List.setIfInBounds_toArray, List.set_cons_zero, List.set_cons_succ, i64_w, i32_w]
          rfl
        refine take_ (i := 10) (N := some 126) (v := ?_) (a' := ?_) #[true, true, true, true, true, false, true, true, true, true, true, false, true, false, false, false, false] rfl rfl (take_ofW HT_.out HW_.out (by kernel_rfl)) (fun _ _ _ h => h) (Or.inl ⟨by rfl, ?_⟩) hHeld ?_ ?_
        rotate_left
        · rintro w' ⟨s0, s1, s2⟩
          have i0 : Go.Proofs.YtjllbkeobibnkaaDoorK.Holds w' w.heap.size (.cells #[.slice A la.length c, .slice B lb.length d, .slice C lc.length e] 24) := ⟨s0⟩
          have i1 : Go.Proofs.YtjllbkeobibnkaaDoorK.Holds w' (w.heap.size + 1) (.cells #[.int .i64 5, .int .i64 u, .string p, .string q] 33) := ⟨s1⟩
          have i2 : Go.Proofs.YtjllbkeobibnkaaDoorK.Holds w' w2.heap.size (.cells (A65 { y with l := { y.l with f0 := y.r.f0 } }) 65) := ⟨s2⟩
          go_simp
          with_reducible rfl
        rotate_left
        · simp only [Act.put, List.setIfInBounds_toArray, List.set_cons_zero, List.set_cons_succ, i64_w, i32_w]
          rfl
        refine take_ (i := 13) (N := some 129) (v := ?_) (a' := ?_) #[true, true, true, true, true, false, true, true, true, true, true, false, true, true, false, false, false] rfl rfl (take_ofW HT_.out HW_.out (by kernel_rfl)) (fun _ _ _ h => h) (Or.inl ⟨by rfl, ?_⟩) hHeld ?_ ?_
        rotate_left
        · rintro w' ⟨s0, s1, s2⟩
          have i0 : Go.Proofs.YtjllbkeobibnkaaDoorK.Holds w' w.heap.size (.cells #[.slice A la.length c, .slice B lb.length d, .slice C lc.length e] 24) := ⟨s0⟩
          have i1 : Go.Proofs.YtjllbkeobibnkaaDoorK.Holds w' (w.heap.size + 1) (.cells #[.int .i64 5, .int .i64 u, .string p, .string q] 33) := ⟨s1⟩
          have i2 : Go.Proofs.YtjllbkeobibnkaaDoorK.Holds w' w2.heap.size (.cells (A65 { y with l := { y.l with f0 := y.r.f0 } }) 65) := ⟨s2⟩
          go_simp
          with_reducible rfl
        rotate_left
        · simp only [Act.put, List.setIfInBounds_toArray, List.set_cons_zero, List.set_cons_succ, i64_w, i32_w]
          rfl
        refine one_ (i := 5) (N := some 121) #[true, true, true, true, true, true, true, true, true, true, true, false, true, true, false, false, false] rfl rfl (one_of HT_.out (by kernel_rfl)) (by decide) (fun K hK => ?_)
        refine goes_ Tryd.func35 (by kernel_rfl) rfl #[.slice A la.length c, .string p, .agg (A51 y.r)] (by rfl) rfl rfl (by (try simp only [List.map_toArray, List.map_cons, List.map_nil]); first | done | rfl) ?_
        refine (HW0.out _ (bel _ _) (y.r)).mono ?_
        rintro e4 w4 ⟨v4, rfl, hv, hb⟩
        have p4 := prev_call hb
        obtain ⟨X4, k4, rfl⟩ := Kd.R_slice hv
        have HV4 := Aside0.mk hv
        clear hb hv
        refine ⟨_, rfl, ?_⟩
        refine hK.out _ _ ⟨held, held, held⟩ (fun hHeld => ?_)
        clear hK K
        refine norm_ (a' := ?_) ?_ ?_
        rotate_left
        · show Act.put _ (some 121) _ = _
          simp only [Act.put, List.setIfInBounds_toArray, List.set_cons_zero, List.set_cons_succ, i64_w, i32_w]
          rfl
        refine one_ (i := 11) (N := some 127) #[true, true, true, true, true, true, true, true, true, true, true, true, true, true, false, false, false] rfl rfl (one_of HT_.out (by kernel_rfl)) (by decide) (fun K hK => ?_)
        refine goes_ Tryd.func35 (by kernel_rfl) rfl #[.slice B lb.length d, .string p, .agg (A51 { y.l with f0 := y.r.f0 })] (by rfl) rfl rfl (by (try simp only [List.map_toArray, List.map_cons, List.map_nil]); first | done | rfl) ?_
        refine (HW1.out _ (bel _ _) ({ y.l with f0 := y.r.f0 })).mono ?_
        rintro e5 w5 ⟨v5, rfl, hv, hb⟩
        have p5 := prev_call hb
        obtain ⟨X5, k5, rfl⟩ := Kd.R_slice hv
        have HV5 := Aside0.mk hv
        clear hb hv
        refine ⟨_, rfl, ?_⟩
        refine hK.out _ _ ⟨held, held, held⟩ (fun hHeld => ?_)
        clear hK K
        refine norm_ (a' := ?_) ?_ ?_
        rotate_left
        · show Act.put _ (some 127) _ = _
          simp only [Act.put, List.setIfInBounds_toArray, List.set_cons_zero, List.set_cons_succ, i64_w, i32_w]
          rfl
        refine pure_ (i := 14) (N := some 130) (v := ?_) (a' := ?_) #[true, true, true, true, true, true, true, true, true, true, true, true, true, true, true, false, false] rfl rfl (any_of HT_.out (by kernel_rfl)) (fun _ _ _ h => h) (Or.inl ⟨by rfl, ?_⟩) ?_ ?_
        rotate_left
        · intro w'
          go_simp
          with_reducible rfl
        rotate_left
        · simp only [Act.put, List.setIfInBounds_toArray, List.set_cons_zero, List.set_cons_succ, i64_w, i32_w]
          rfl
        refine last_ (i := 15) (N := none) #[true, true, true, true, true, true, true, true, true, true, true, true, true, true, true, true, false] rfl rfl (one_of HT_.out (by kernel_rfl)) (by decide) (fun K hK => ?_)
        refine box_skip (by rfl) rfl 24 (.tmp 6) (.tmp 130) rfl held #[.slice X4 (withS la p y.r).length k4, .slice X5 (withS lb p { y.l with f0 := y.r.f0 }).length k5, .slice C lc.length e] rfl rfl info24 (by rfl) (by rfl) ?_
        intro w9 hx9 hg9
        have p9 := prev_row hg9
        have HZ := Aside0.mk hx9
        clear hx9 hg9
        refine hK.out _ _ ?_
        clear hK K
        refine pure_ (i := 16) (N := some 7) (v := ?_) (a' := ?_) #[true, true, true, true, true, true, true, true, true, true, true, true, true, true, true, true, true] rfl rfl (any_of HT_.out (by kernel_rfl)) (fun _ _ _ h => h) (Or.inl ⟨by rfl, ?_⟩) ?_ ?_
        rotate_left
        · intro w'
          go_simp
          with_reducible rfl
        rotate_left
        · simp only [Act.put, List.setIfInBounds_toArray, List.set_cons_zero, List.set_cons_succ, i64_w, i32_w]
          rfl
        refine done_ (done_of HT_.out (by kernel_rfl)) ?_
        go_wp2_with fail
        refine bodyPost_ret (results_row_tmp rfl _ _ (.int .i64 0) HZ.out rfl rfl Tryd.underlying24 rfl (by exact info24)) rfl ?_
        exact ⟨_, rfl, SideIn.ofRow (Row.ofR (rowX HV4.out)) (Row.ofR (rowX HV5.out)) (Row.ofC (Kd.C_below HC2.out (bel w _)) l3), bel _ _⟩
    · · rw [if_neg (fun h => absurd h.1 (by decide))] at hr
        subst hr
        go_wp2_with fail
        refine start_ (n := 11) (S := fun w' => w'.heap[w.heap.size]? = some (.cells #[.slice A la.length c, .slice B lb.length d, .slice C lc.length e] 24 (0, 0)) ∧ w'.heap[w.heap.size + 1]? = some (.cells #[.int .i64 6, .int .i64 u, .string p, .string q] 33 (0, 0)) ∧ w'.heap[w2.heap.size]? = some (.cells (A65 y) 65 (0, 0))) (ds := [9]) #[false, false, false, false, false, false, false, false, false, false, false] (by kernel_rfl) rfl rfl ⟨held, held, held⟩ (fun hHeld => ?_); refine with_tabW do25.tab25 do25.bits25 (fun HT_ HW_ => ?_)
        refine pure_ (i := 0) (N := some 154) (v := ?_) (a' := ?_) #[true, false, false, false, false, false, false, false, false, false, false] rfl rfl (any_of HT_.out (by kernel_rfl)) (fun _ _ _ h => h) (Or.inl ⟨by rfl, ?_⟩) ?_ ?_
        rotate_left
        · intro w'
          go_simp
          with_reducible rfl
        rotate_left
        · simp only [Act.put, List.setIfInBounds_toArray, List.set_cons_zero, List.set_cons_succ, i64_w, i32_w]
          rfl
        refine pure_ (i := 2) (N := some 156) (v := ?_) (a' := ?_) #[true, false, true, false, false, false, false, false, false, false, false] rfl rfl (any_of HT_.out (by kernel_rfl)) (fun _ _ _ h => h) (Or.inl ⟨by rfl, ?_⟩) ?_ ?_
        rotate_left
        · intro w'
          go_simp
          with_reducible rfl
        rotate_left
        · simp only [Act.put, List.setIfInBounds_toArray, List.set_cons_zero, List.set_cons_succ, i64_w, i32_w]
          rfl
        refine pure_ (i := 4) (N := some 158) (v := ?_) (a' := ?_) #[true, false, true, false, true, false, false, false, false, false, false] rfl rfl (any_of HT_.out (by kernel_rfl)) (fun _ _ _ h => h) (Or.inl ⟨by rfl, ?_⟩) ?_ ?_
        rotate_left
        · intro w'
          go_simp
          with_reducible rfl
        rotate_left
        · simp only [Act.put, List.setIfInBounds_toArray, List.set_cons_zero, List.set_cons_succ, i64_w, i32_w]
          rfl
        refine pure_ (i := 6) (N := some 160) (v := ?_) (a' := ?_) #[true, false, true, false, true, false, true, false, false, false, false] rfl rfl (any_of HT_.out (by kernel_rfl)) (fun _ _ _ h => h) (Or.inl ⟨by rfl, ?_⟩) ?_ ?_
        rotate_left
        · intro w'
          go_simp
          with_reducible rfl
        rotate_left
        · simp only [Act.put, List.setIfInBounds_toArray, List.set_cons_zero, List.set_cons_succ, i64_w, i32_w]
          rfl
        refine take_ (i := 1) (N := some 155) (v := ?_) (a' := ?_) #[true, true, true, false, true, false, true, false, false, false, false] rfl rfl (take_ofW HT_.out HW_.out (by kernel_rfl)) (fun _ _ _ h => h) (Or.inl ⟨by rfl, ?_⟩) hHeld ?_ ?_
        rotate_left
        · rintro w' ⟨s0, s1, s2⟩
          have i0 : Go.Proofs.YtjllbkeobibnkaaDoorK.Holds w' w.heap.size (.cells #[.slice A la.length c, .slice B lb.length d, .slice C lc.length e] 24) := ⟨s0⟩
          have i1 : Go.Proofs.YtjllbkeobibnkaaDoorK.Holds w' (w.heap.size + 1) (.cells #[.int .i64 6, .int .i64 u, .string p, .string q] 33) := ⟨s1⟩
          have i2 : Go.Proofs.YtjllbkeobibnkaaDoorK.Holds w' w2.heap.size (.cells (A65 y) 65) := ⟨s2⟩
          go_simp
          with_reducible rfl
        rotate_left
        · simp only [Act.put, List.setIfInBounds_toArray, List.set_cons_zero, List.set_cons_succ, i64_w, i32_w]
          rfl
        refine take_ (i := 5) (N := some 159) (v := ?_) (a' := ?_) #[true, true, true, false, true, true, true, false, false, false, false] rfl rfl (take_ofW HT_.out HW_.out (by kernel_rfl)) (fun _ _ _ h => h) (Or.inl ⟨by rfl, ?_⟩) hHeld ?_ ?_
        rotate_left
        · rintro w' ⟨s0, s1, s2⟩
          have i0 : Go.Proofs.YtjllbkeobibnkaaDoorK.Holds w' w.heap.size (.cells #[.slice A la.length c, .slice B lb.length d, .slice C lc.length e] 24) := ⟨s0⟩
          have i1 : Go.Proofs.YtjllbkeobibnkaaDoorK.Holds w' (w.heap.size + 1) (.cells #[.int .i64 6, .int .i64 u, .string p, .string q] 33) := ⟨s1⟩
          have i2 : Go.Proofs.YtjllbkeobibnkaaDoorK.Holds w' w2.heap.size (.cells (A65 y) 65) := ⟨s2⟩
          go_simp
          with_reducible rfl
        rotate_left
        · simp only [Act.put, List.setIfInBounds_toArray, List.set_cons_zero, List.set_cons_succ, i64_w, i32_w]
          rfl
        refine take_ (i := 7) (N := some 161) (v := ?_) (a' := ?_) #[true, true, true, false, true, true, true, true, false, false, false] rfl rfl (take_ofW HT_.out HW_.out (by kernel_rfl)) (fun _ _ _ h => h) (Or.inl ⟨by rfl, ?_⟩) hHeld ?_ ?_
        rotate_left
        · rintro w' ⟨s0, s1, s2⟩
          have i0 : Go.Proofs.YtjllbkeobibnkaaDoorK.Holds w' w.heap.size (.cells #[.slice A la.length c, .slice B lb.length d, .slice C lc.length e] 24) := ⟨s0⟩
          have i1 : Go.Proofs.YtjllbkeobibnkaaDoorK.Holds w' (w.heap.size + 1) (.cells #[.int .i64 6, .int .i64 u, .string p, .string q] 33) := ⟨s1⟩
          have i2 : Go.Proofs.YtjllbkeobibnkaaDoorK.Holds w' w2.heap.size (.cells (A65 y) 65) := ⟨s2⟩
          go_simp
          with_reducible rfl
        rotate_left
        · simp only [Act.put, List.setIfInBounds_toArray, List.set_cons_zero, List.set_cons_succ, i64_w, i32_w]
          rfl
        refine one_ (i := 3) (N := some 157) #[true, true, true, true, true, true, true, true, false, false, false] rfl rfl (one_of HT_.out (by kernel_rfl)) (by decide) (fun K hK => ?_)
        refine goes_ Tryd.func36 (by kernel_rfl) rfl #[.slice A la.length c, .string p] (by rfl) rfl rfl (by (try simp only [List.map_toArray, List.map_cons, List.map_nil]); first | done | rfl) ?_
        refine (HO0.out _ (bel _ _)).mono ?_
        rintro e4 w4 ⟨v4, rfl, hv, hb⟩
        have p4 := prev_call hb
        obtain ⟨X4, k4, rfl⟩ := Kd.R_slice hv
        have HV4 := Aside0.mk hv
        clear hb hv
        refine ⟨_, rfl, ?_⟩
        refine hK.out _ _ ⟨held, held, held⟩ (fun hHeld => ?_)
        clear hK K
        refine norm_ (a' := ?_) ?_ ?_
        rotate_left
        · show Act.put _ (some 157) _ = _
          simp only [Act.put, List.setIfInBounds_toArray, List.set_cons_zero, List.set_cons_succ, i64_w, i32_w]
          rfl
        refine pure_ (i := 8) (N := some 162) (v := ?_) (a' := ?_) #[true, true, true, true, true, true, true, true, true, false, false] rfl rfl (any_of HT_.out (by kernel_rfl)) (fun _ _ _ h => h) (Or.inl ⟨by rfl, ?_⟩) ?_ ?_
        rotate_left
        · intro w'
          go_simp
          with_reducible rfl
        rotate_left
        · simp only [Act.put, List.setIfInBounds_toArray, List.set_cons_zero, List.set_cons_succ, i64_w, i32_w]
          rfl
        refine last_ (i := 9) (N := none) #[true, true, true, true, true, true, true, true, true, true, false] rfl rfl (one_of HT_.out (by kernel_rfl)) (by decide) (fun K hK => ?_)
        refine box_skip (by rfl) rfl 24 (.tmp 6) (.tmp 162) rfl held #[.slice X4 (woS la p).length k4, .slice B lb.length d, .slice C lc.length e] rfl rfl info24 (by rfl) (by rfl) ?_
        intro w9 hx9 hg9
        have p9 := prev_row hg9
        have HZ := Aside0.mk hx9
        clear hx9 hg9
        refine hK.out _ _ ?_
        clear hK K
        refine pure_ (i := 10) (N := some 7) (v := ?_) (a' := ?_) #[true, true, true, true, true, true, true, true, true, true, true] rfl rfl (any_of HT_.out (by kernel_rfl)) (fun _ _ _ h => h) (Or.inl ⟨by rfl, ?_⟩) ?_ ?_
        rotate_left
        · intro w'
          go_simp
          with_reducible rfl
        rotate_left
        · simp only [Act.put, List.setIfInBounds_toArray, List.set_cons_zero, List.set_cons_succ, i64_w, i32_w]
          rfl
        refine done_ (done_of HT_.out (by kernel_rfl)) ?_
        go_wp2_with fail
        refine bodyPost_ret (results_row_tmp rfl _ _ (.int .i64 0) HZ.out rfl rfl Tryd.underlying24 rfl (by exact info24)) rfl ?_
        exact ⟨_, rfl, SideIn.ofRow (Row.ofR (rowX HV4.out)) (Row.ofC (Kd.C_below HC1.out (bel w _)) l2) (Row.ofC (Kd.C_below HC2.out (bel w _)) l3), bel _ _⟩
    · · rw [if_neg (fun h => absurd h.1 (by decide))] at hr
        subst hr
        go_wp2_with fail
        refine start_ (n := 12) (S := fun w' => w'.heap[w.heap.size]? = some (.cells #[.slice A la.length c, .slice B lb.length d, .slice C lc.length e] 24 (0, 0)) ∧ w'.heap[w.heap.size + 1]? = some (.cells #[.int .i64 7, .int .i64 u, .string p, .string q] 33 (0, 0)) ∧ w'.heap[w2.heap.size]? = some (.cells (A65 y) 65 (0, 0))) (ds := []) #[false, false, false, false, false, false, false, false, false, false, false, false] (by kernel_rfl) rfl rfl ⟨held, held, held⟩ (fun hHeld => ?_); refine with_tabW do23.tab23 do23.bits23 (fun HT_ HW_ => ?_)
        refine pure_ (i := 0) (N := some 133) (v := ?_) (a' := ?_) #[true, false, false, false, false, false, false, false, false, false, false, false] rfl rfl (any_of HT_.out (by kernel_rfl)) (fun _ _ _ h => h) (Or.inl ⟨by rfl, ?_⟩) ?_ ?_
        rotate_left
        · intro w'
          go_simp
          with_reducible rfl
        rotate_left
        · simp only [Act.put, List.setIfInBounds_toArray, List.set_cons_zero, List.set_cons_succ, i64_w, i32_w]
          rfl
        refine pure_ (i := 2) (N := some 135) (v := ?_) (a' := ?_) #[true, false, true, false, false, false, false, false, false, false, false, false] rfl rfl (any_of HT_.out (by kernel_rfl)) (fun _ _ _ h => h) (Or.inl ⟨by rfl, ?_⟩) ?_ ?_
        rotate_left
        · intro w'
          go_simp
          with_reducible rfl
        rotate_left
        · simp only [Act.put, List.setIfInBounds_toArray, List.set_cons_zero, List.set_cons_succ, i64_w, i32_w]
          rfl
        refine pure_ (i := 4) (N := some 137) (v := ?_) (a' := ?_) #[true, false, true, false, true, false, false, false, false, false, false, false] rfl rfl (any_of HT_.out (by kernel_rfl)) (fun _ _ _ h => h) (Or.inl ⟨by rfl, ?_⟩) ?_ ?_
        rotate_left
        · intro w'
          go_simp
          with_reducible rfl
        rotate_left
        · simp only [Act.put, List.setIfInBounds_toArray, List.set_cons_zero, List.set_cons_succ, i64_w, i32_w]
          rfl
        refine pure_ (i := 7) (N := some 140) (v := ?_) (a' := ?_) #[true, false, true, false, true, false, false, true, false, false, false, false] rfl rfl (any_of HT_.out (by kernel_rfl)) (fun _ _ _ h => h) (Or.inl ⟨by rfl, ?_⟩) ?_ ?_
        rotate_left
        · intro w'
          go_simp
          with_reducible rfl
        rotate_left
        · simp only [Act.put, List.setIfInBounds_toArray, List.set_cons_zero, List.set_cons_succ, i64_w, i32_w]
          rfl
        refine pure_ (i := 8) (N := some 141) (v := ?_) (a' := ?_) #[true, false, true, false, true, false, false, true, true, false, false, false] rfl rfl (any_of HT_.out (by kernel_rfl)) (fun _ _ _ h => h) (Or.inl ⟨by rfl, ?_⟩) ?_ ?_
        rotate_left
        · intro w'
          go_simp
          with_reducible rfl
        rotate_left
        · simp only [Act.put, List.setIfInBounds_toArray, List.set_cons_zero, List.set_cons_succ, i64_w, i32_w]
          rfl
        refine take_ (i := 1) (N := some 134) (v := ?_) (a' := ?_) #[true, true, true, false, true, false, false, true, true, false, false, false] rfl rfl (take_ofW HT_.out HW_.out (by kernel_rfl)) (fun _ _ _ h => h) (Or.inl ⟨by rfl, ?_⟩) hHeld ?_ ?_
        rotate_left
        · rintro w' ⟨s0, s1, s2⟩
          have i0 : Go.Proofs.YtjllbkeobibnkaaDoorK.Holds w' w.heap.size (.cells #[.slice A la.length c, .slice B lb.length d, .slice C lc.length e] 24) := ⟨s0⟩
          have i1 : Go.Proofs.YtjllbkeobibnkaaDoorK.Holds w' (w.heap.size + 1) (.cells #[.int .i64 7, .int .i64 u, .string p, .string q] 33) := ⟨s1⟩
          have i2 : Go.Proofs.YtjllbkeobibnkaaDoorK.Holds w' w2.heap.size (.cells (A65 y) 65) := ⟨s2⟩
          go_simp
          with_reducible rfl
        rotate_left
        · simp only [Act.put, List.setIfInBounds_toArray, List.set_cons_zero, List.set_cons_succ, i64_w, i32_w]
          rfl
        refine take_ (i := 3) (N := some 136) (v := ?_) (a' := ?_) #[true, true, true, true, true, false, false, true, true, false, false, false] rfl rfl (take_ofW HT_.out HW_.out (by kernel_rfl)) (fun _ _ _ h => h) (Or.inl ⟨by rfl, ?_⟩) hHeld ?_ ?_
        rotate_left
        · rintro w' ⟨s0, s1, s2⟩
          have i0 : Go.Proofs.YtjllbkeobibnkaaDoorK.Holds w' w.heap.size (.cells #[.slice A la.length c, .slice B lb.length d, .slice C lc.length e] 24) := ⟨s0⟩
          have i1 : Go.Proofs.YtjllbkeobibnkaaDoorK.Holds w' (w.heap.size + 1) (.cells #[.int .i64 7, .int .i64 u, .string p, .string q] 33) := ⟨s1⟩
          have i2 : Go.Proofs.YtjllbkeobibnkaaDoorK.Holds w' w2.heap.size (.cells (A65 y) 65) := ⟨s2⟩
          go_simp
          with_reducible rfl
        rotate_left
        · simp only [Act.put, List.setIfInBounds_toArray, List.set_cons_zero, List.set_cons_succ, i64_w, i32_w]
          rfl
        refine take_ (i := 5) (N := some 138) (v := ?_) (a' := ?_) #[true, true, true, true, true, true, false, true, true, false, false, false] rfl rfl (take_ofW HT_.out HW_.out (by kernel_rfl)) (fun _ _ _ h => h) (Or.inl ⟨by rfl, ?_⟩) hHeld ?_ ?_
        rotate_left
        · rintro w' ⟨s0, s1, s2⟩
          have i0 : Go.Proofs.YtjllbkeobibnkaaDoorK.Holds w' w.heap.size (.cells #[.slice A la.length c, .slice B lb.length d, .slice C lc.length e] 24) := ⟨s0⟩
          have i1 : Go.Proofs.YtjllbkeobibnkaaDoorK.Holds w' (w.heap.size + 1) (.cells #[.int .i64 7, .int .i64 u, .string p, .string q] 33) := ⟨s1⟩
          have i2 : Go.Proofs.YtjllbkeobibnkaaDoorK.Holds w' w2.heap.size (.cells (A65 y) 65) := ⟨s2⟩
          go_simp
          with_reducible rfl
        rotate_left
        · simp only [Act.put, List.setIfInBounds_toArray, List.set_cons_zero, List.set_cons_succ, i64_w, i32_w]
          rfl
        refine take_ (i := 9) (N := some 142) (v := ?_) (a' := ?_) #[true, true, true, true, true, true, false, true, true, true, false, false] rfl rfl (take_ofW HT_.out HW_.out (by kernel_rfl)) (fun _ _ _ h => h) (Or.inl ⟨by rfl, ?_⟩) hHeld ?_ ?_
        rotate_left
        · rintro w' ⟨s0, s1, s2⟩
          have i0 : Go.Proofs.YtjllbkeobibnkaaDoorK.Holds w' w.heap.size (.cells #[.slice A la.length c, .slice B lb.length d, .slice C lc.length e] 24) := ⟨s0⟩
          have i1 : Go.Proofs.YtjllbkeobibnkaaDoorK.Holds w' (w.heap.size + 1) (.cells #[.int .i64 7, .int .i64 u, .string p, .string q] 33) := ⟨s1⟩
          have i2 : Go.Proofs.YtjllbkeobibnkaaDoorK.Holds w' w2.heap.size (.cells (A65 y) 65) := ⟨s2⟩
          go_simp
          with_reducible rfl
        rotate_left
        · simp only [Act.put, List.setIfInBounds_toArray, List.set_cons_zero, List.set_cons_succ, i64_w, i32_w]
          rfl
        refine one_ (i := 6) (N := some 139) #[true, true, true, true, true, true, true, true, true, true, false, false] rfl rfl (one_of HT_.out (by kernel_rfl)) (by decide) (fun K hK => ?_)
        refine goes_ Tryd.func35 (by kernel_rfl) rfl #[.slice B lb.length d, .string q, .agg (A51 y.l)] (by rfl) rfl rfl (by (try simp only [List.map_toArray, List.map_cons, List.map_nil]); first | done | rfl) ?_
        refine (HT.out _ (bel _ _) y.l).mono ?_
        rintro e4 w4 ⟨v4, rfl, hv, hb⟩
        have p4 := prev_call hb
        obtain ⟨X4, k4, rfl⟩ := Kd.R_slice hv
        have HV4 := Aside0.mk hv
        clear hb hv
        refine ⟨_, rfl, ?_⟩
        refine hK.out _ _ ⟨held, held, held⟩ (fun hHeld => ?_)
        clear hK K
        refine norm_ (a' := ?_) ?_ ?_
        rotate_left
        · show Act.put _ (some 139) _ = _
          simp only [Act.put, List.setIfInBounds_toArray, List.set_cons_zero, List.set_cons_succ, i64_w, i32_w]
          rfl
        refine one_ (i := 10) (N := some 143) #[true, true, true, true, true, true, true, true, true, true, true, false] rfl rfl (one_of HT_.out (by kernel_rfl)) (by decide) (fun K hK => ?_)
        refine goes_ Tryd.func35 (by kernel_rfl) rfl #[.slice X4 (withS lb q y.l).length k4, .string p, .agg (A51 y.r)] (by rfl) rfl rfl (by (try simp only [List.map_toArray, List.map_cons, List.map_nil]); first | done | rfl) ?_
        refine (HTT.out _ _ _ y.l y.r (Kd.R_reads' HV4.out).2.2 (Kd.R_reads' HV4.out).2.1).mono ?_
        rintro e5 w5 ⟨v5, rfl, hv, hb⟩
        have p5 := prev_call hb
        obtain ⟨X5, k5, rfl⟩ := Kd.R_slice hv
        have HV5 := Aside0.mk hv
        clear hb hv
        refine ⟨_, rfl, ?_⟩
        refine hK.out _ _ ⟨held, held, held⟩ (fun hHeld => ?_)
        clear hK K
        refine norm_ (a' := ?_) ?_ ?_
        rotate_left
        · show Act.put _ (some 143) _ = _
          simp only [Act.put, List.setIfInBounds_toArray, List.set_cons_zero, List.set_cons_succ, i64_w, i32_w]
          rfl
        refine pure_ (i := 11) (N := some 10) (v := ?_) (a' := ?_) #[true, true, true, true, true, true, true, true, true, true, true, true] rfl rfl (any_of HT_.out (by kernel_rfl)) (fun _ _ _ h => h) (Or.inl ⟨by rfl, ?_⟩) ?_ ?_
        rotate_left
        · intro w'
          go_simp
          with_reducible rfl
        rotate_left
        · simp only [Act.put, List.setIfInBounds_toArray, List.set_cons_zero, List.set_cons_succ, i64_w, i32_w]
          rfl
        refine done_ (done_of HT_.out (by kernel_rfl)) ?_
        go_wp2_with fail
        refine start_ (n := 12) (S := fun w' => w'.heap[w.heap.size]? = some (.cells #[.slice A la.length c, .slice B lb.length d, .slice C lc.length e] 24 (0, 0)) ∧ w'.heap[w.heap.size + 1]? = some (.cells #[.int .i64 7, .int .i64 u, .string p, .string q] 33 (0, 0)) ∧ w'.heap[w2.heap.size]? = some (.cells (A65 y) 65 (0, 0))) (ds := [10]) #[false, false, false, false, false, false, false, false, false, false, false, false] (by kernel_rfl) rfl rfl ⟨held, held, held⟩ (fun hHeld => ?_); refine with_tabW do24.tab24 do24.bits24 (fun HT_ HW_ => ?_)
        refine pure_ (i := 0) (N := some 144) (v := ?_) (a' := ?_) #[true, false, false, false, false, false, false, false, false, false, false, false] rfl rfl (any_of HT_.out (by kernel_rfl)) (fun _ _ _ h => h) (Or.inl ⟨by rfl, ?_⟩) ?_ ?_
        rotate_left
        · intro w'
          go_simp
          with_reducible rfl
        rotate_left
        · simp only [Act.put, List.setIfInBounds_toArray, List.set_cons_zero, List.set_cons_succ, i64_w, i32_w]
          rfl
        refine pure_ (i := 2) (N := some 146) (v := ?_) (a' := ?_) #[true, false, true, false, false, false, false, false, false, false, false, false] rfl rfl (any_of HT_.out (by kernel_rfl)) (fun _ _ _ h => h) (Or.inl ⟨by rfl, ?_⟩) ?_ ?_
        rotate_left
        · intro w'
          go_simp
          with_reducible rfl
        rotate_left
        · simp only [Act.put, List.setIfInBounds_toArray, List.set_cons_zero, List.set_cons_succ, i64_w, i32_w]
          rfl
        refine pure_ (i := 3) (N := some 147) (v := ?_) (a' := ?_) #[true, false, true, true, false, false, false, false, false, false, false, false] rfl rfl (any_of HT_.out (by kernel_rfl)) (fun _ _ _ h => h) (Or.inl ⟨by rfl, ?_⟩) ?_ ?_
        rotate_left
        · intro w'
          go_simp
          with_reducible rfl
        rotate_left
        · simp only [Act.put, List.setIfInBounds_toArray, List.set_cons_zero, List.set_cons_succ, i64_w, i32_w]
          rfl
        refine pure_ (i := 6) (N := some 150) (v := ?_) (a' := ?_) #[true, false, true, true, false, false, true, false, false, false, false, false] rfl rfl (any_of HT_.out (by kernel_rfl)) (fun _ _ _ h => h) (Or.inl ⟨by rfl, ?_⟩) ?_ ?_
        rotate_left
        · intro w'
          go_simp
          with_reducible rfl
        rotate_left
        · simp only [Act.put, List.setIfInBounds_toArray, List.set_cons_zero, List.set_cons_succ, i64_w, i32_w]
          rfl
        refine pure_ (i := 7) (N := some 151) (v := ?_) (a' := ?_) #[true, false, true, true, false, false, true, true, false, false, false, false] rfl rfl (any_of HT_.out (by kernel_rfl)) (fun _ _ _ h => h) (Or.inl ⟨by rfl, ?_⟩) ?_ ?_
        rotate_left
        · intro w'
          go_simp
          with_reducible rfl
        rotate_left
        · simp only [Act.put, List.setIfInBounds_toArray, List.set_cons_zero, List.set_cons_succ, i64_w, i32_w]
          rfl
        refine take_ (i := 1) (N := some 145) (v := ?_) (a' := ?_) #[true, true, true, true, false, false, true, true, false, false, false, false] rfl rfl (take_ofW HT_.out HW_.out (by kernel_rfl)) (fun _ _ _ h => h) (Or.inl ⟨by rfl, ?_⟩) hHeld ?_ ?_
        rotate_left
        · rintro w' ⟨s0, s1, s2⟩
          have i0 : Go.Proofs.YtjllbkeobibnkaaDoorK.Holds w' w.heap.size (.cells #[.slice A la.length c, .slice B lb.length d, .slice C lc.length e] 24) := ⟨s0⟩
          have i1 : Go.Proofs.YtjllbkeobibnkaaDoorK.Holds w' (w.heap.size + 1) (.cells #[.int .i64 7, .int .i64 u, .string p, .string q] 33) := ⟨s1⟩
          have i2 : Go.Proofs.YtjllbkeobibnkaaDoorK.Holds w' w2.heap.size (.cells (A65 y) 65) := ⟨s2⟩
          go_simp
          with_reducible rfl
        rotate_left
        · simp only [Act.put, List.setIfInBounds_toArray, List.set_cons_zero, List.set_cons_succ, i64_w, i32_w]
          rfl
        refine take_ (i := 4) (N := some 148) (v := ?_) (a' := ?_) #[true, true, true, true, true, false, true, true, false, false, false, false] rfl rfl (take_ofW HT_.out HW_.out (by kernel_rfl)) (fun _ _ _ h => h) (Or.inl ⟨by rfl, ?_⟩) hHeld ?_ ?_
        rotate_left
        · rintro w' ⟨s0, s1, s2⟩
          have i0 : Go.Proofs.YtjllbkeobibnkaaDoorK.Holds w' w.heap.size (.cells #[.slice A la.length c, .slice B lb.length d, .slice C lc.length e] 24) := ⟨s0⟩
          have i1 : Go.Proofs.YtjllbkeobibnkaaDoorK.Holds w' (w.heap.size + 1) (.cells #[.int .i64 7, .int .i64 u, .string p, .string q] 33) := ⟨s1⟩
          have i2 : Go.Proofs.YtjllbkeobibnkaaDoorK.Holds w' w2.heap.size (.cells (A65 y) 65) := ⟨s2⟩
          go_simp
          with_reducible rfl
        rotate_left
        · simp only [Act.put, List.setIfInBounds_toArray, List.set_cons_zero, List.set_cons_succ, i64_w, i32_w]
          rfl
        refine take_ (i := 8) (N := some 152) (v := ?_) (a' := ?_) #[true, true, true, true, true, false, true, true, true, false, false, false] rfl rfl (take_ofW HT_.out HW_.out (by kernel_rfl)) (fun _ _ _ h => h) (Or.inl ⟨by rfl, ?_⟩) hHeld ?_ ?_
        rotate_left
        · rintro w' ⟨s0, s1, s2⟩
          have i0 : Go.Proofs.YtjllbkeobibnkaaDoorK.Holds w' w.heap.size (.cells #[.slice A la.length c, .slice B lb.length d, .slice C lc.length e] 24) := ⟨s0⟩
          have i1 : Go.Proofs.YtjllbkeobibnkaaDoorK.Holds w' (w.heap.size + 1) (.cells #[.int .i64 7, .int .i64 u, .string p, .string q] 33) := ⟨s1⟩
          have i2 : Go.Proofs.YtjllbkeobibnkaaDoorK.Holds w' w2.heap.size (.cells (A65 y) 65) := ⟨s2⟩
          go_simp
          with_reducible rfl
        rotate_left
        · simp only [Act.put, List.setIfInBounds_toArray, List.set_cons_zero, List.set_cons_succ, i64_w, i32_w]
          rfl
        refine one_ (i := 5) (N := some 149) #[true, true, true, true, true, true, true, true, true, false, false, false] rfl rfl (one_of HT_.out (by kernel_rfl)) (by decide) (fun K hK => ?_)
        refine goes_ Tryd.func35 (by kernel_rfl) rfl #[.slice A la.length c, .string p, .agg (A51 y.r)] (by rfl) rfl rfl (by (try simp only [List.map_toArray, List.map_cons, List.map_nil]); first | done | rfl) ?_
        refine (HW0.out _ (bel _ _) (y.r)).mono ?_
        rintro e6 w6 ⟨v6, rfl, hv, hb⟩
        have p6 := prev_call hb
        obtain ⟨X6, k6, rfl⟩ := Kd.R_slice hv
        have HV6 := Aside0.mk hv
        clear hb hv
        refine ⟨_, rfl, ?_⟩
        refine hK.out _ _ ⟨held, held, held⟩ (fun hHeld => ?_)
        clear hK K
        refine norm_ (a' := ?_) ?_ ?_
        rotate_left
        · show Act.put _ (some 149) _ = _
          simp only [Act.put, List.setIfInBounds_toArray, List.set_cons_zero, List.set_cons_succ, i64_w, i32_w]
          rfl
        refine pure_ (i := 9) (N := some 153) (v := ?_) (a' := ?_) #[true, true, true, true, true, true, true, true, true, true, false, false] rfl rfl (any_of HT_.out (by kernel_rfl)) (fun _ _ _ h => h) (Or.inl ⟨by rfl, ?_⟩) ?_ ?_
        rotate_left
        · intro w'
          go_simp
          with_reducible rfl
        rotate_left
        · simp only [Act.put, List.setIfInBounds_toArray, List.set_cons_zero, List.set_cons_succ, i64_w, i32_w]
          rfl
        refine last_ (i := 10) (N := none) #[true, true, true, true, true, true, true, true, true, true, true, false] rfl rfl (one_of HT_.out (by kernel_rfl)) (by decide) (fun K hK => ?_)
        refine box_skip (by rfl) rfl 24 (.tmp 6) (.tmp 153) rfl held #[.slice X6 (withS la p y.r).length k6, .slice X5 (withS (withS lb q y.l) p y.r).length k5, .slice C lc.length e] rfl rfl info24 (by rfl) (by rfl) ?_
        intro w9 hx9 hg9
        have p9 := prev_row hg9
        have HZ := Aside0.mk hx9
        clear hx9 hg9
        refine hK.out _ _ ?_
        clear hK K
        refine pure_ (i := 11) (N := some 7) (v := ?_) (a' := ?_) #[true, true, true, true, true, true, true, true, true, true, true, true] rfl rfl (any_of HT_.out (by kernel_rfl)) (fun _ _ _ h => h) (Or.inl ⟨by rfl, ?_⟩) ?_ ?_
        rotate_left
        · intro w'
          go_simp
          with_reducible rfl
        rotate_left
        · simp only [Act.put, List.setIfInBounds_toArray, List.set_cons_zero, List.set_cons_succ, i64_w, i32_w]
          rfl
        refine done_ (done_of HT_.out (by kernel_rfl)) ?_
        go_wp2_with fail
        refine bodyPost_ret (results_row_tmp rfl _ _ (.int .i64 0) HZ.out rfl rfl Tryd.underlying24 rfl (by exact info24)) rfl ?_
        exact ⟨_, rfl, SideIn.ofRow (Row.ofR (rowX HV6.out)) (Row.ofR (rowX HV5.out)) (Row.ofC (Kd.C_below HC2.out (bel w _)) l3), bel _ _⟩
end Go.Proofs.YtjllbkeobibnkaaDoor.Q

namespace Go.Proofs.YtjllbkeobibnkaaDoor.Q
open Go Go.Proofs Go.Shelf Go.RowKit Go.Lib Go.Sort Go.Proofs.YtjllbkeobibnkaaDoorP Go.Proofs.YtjllbkeobibnkaaDoorK Go.Proofs.YtjllbkeobibnkaaDoorW.PrintWords Go.Proofs.YtjllbkeobibnkaaDoorW.PrintLast Go.Proofs.YtjllbkeobibnkaaDoorW.PrintMore
set_option linter.unusedSimpArgs false
set_option linter.unusedVariables false
/-! ### The document's ready -/
theorem find_none : ∀ (l : List S58) (p : ByteArray), (findS l p).2 = false → (findS l p).1 = z51
  | [], p, _ => rfl
  | k :: l, p, h => by
    unfold findS at h ⊢
    split at h
    · cases h
    · rename_i hn
      rw [if_neg hn]
      exact find_none l p h
/-- The document's ready, from what it finds. -/
def rreadyS (s : S24) (x : S33) (l r : S51 × Bool) : Bool :=
  if x.f0 = 1 then l.2 && (r.1.f0 == x.f1)
  else if x.f0 = 2 then (r.2 && (r.1.f0 == x.f1)) && !l.2
  else if x.f0 = 3 then r.2 && (r.1.f0 == x.f1)
  else if x.f0 = 4 then l.2 && !r.2
  else if x.f0 = 5 then (r.2 && (r.1.f0 == x.f1)) && l.2
  else if x.f0 = 6 then !l.2 && !r.2
  else if x.f0 = 7 then (r.2 && (r.1.f0 == x.f1)) && (l.2 && (decide (kindS x.f3 = (2, 0)) && !hasK s x.f3))
  else false
theorem rready_eq (s : S24) (x : S33) : rreadyS s x (findS s.f1 x.f2) (findS s.f2 x.f2) = readyS s x (atS s x.f2) := by
  have hz := find_none s.f2 x.f2
  unfold rreadyS readyS heldS atS
  dsimp only
  generalize findS s.f1 x.f2 = l at *
  generalize findS s.f2 x.f2 = r at *
  obtain ⟨r, ir⟩ := r
  dsimp only at *
  cases ir with
  | true => simp
  | false =>
    rw [hz rfl]
    by_cases h : x.f0 = 1
    · rw [if_pos h, if_pos h]
      have : (z51.f0 == x.f1) = (x.f1 == 0) := by
        rw [Bool.eq_iff_iff, beq_iff_eq, beq_iff_eq]
        exact eq_comm
      simp [this]
    · rw [if_neg h, if_neg h]
attribute [local go_sem] A51_size A51_0 A51_1 A51_g0 A51_g1 A58_size A58_0 A58_1 A58_2 A58_g0 A58_g1 A58_g2 cell_held frozen_held
attribute [local go_sem] A65_size A65_0 A65_34 A65_68 A65_102 A65_103 A65_104 A65_105 A65_106 A65_g0 A65_g34 A65_g68 A65_g102 A65_g103 A65_g104 A65_g105 A65_g106 set_inA set_inL set_inR set_here set_there
attribute [local go_sem] zero51 zero58 zero65 A33
attribute [local go_sem ↓ high] lvx_of
attribute [local go_sem] lv_sc lv24 lv33
attribute [local go_sem ↓ high] lv51 lv51s lv58 lv58a lv65 lv65a lv65l lv65r sc51 sc58 sc65 sc65a sc65l sc65r sc58a
set_option maxRecDepth 100000 in
set_option maxHeartbeats 4000000 in
theorem rready_any (w : World) (s : S24) (v : Array Value) (x : S33) (hs : SideIn w s v) (ho : okS s = true) (hx : x.f3.size ≤ 65536) :
    Calls Tryd.prog 37 #[.agg v, .agg (A33 x)] w fun e w' => e = .returned (.bool (readyS s x (atS s x.f2))) ∧ Below w.heap.size w w' := by
  have HH := Aside0.mk (fun W (hb : Below w.heap.size w W) => rhas_any W s v x.f3 (hs.below hb) (okS_short ho))
  have HK := Aside0.mk (fun W => rKind_any W x.f3 hx)
  rw [← rready_eq]
  have HM := shortS_open (okS_short ho)
  obtain ⟨A, c, B, d, C, e, rfl, l1, l2, l3, h1, h2, h3⟩ := hs.out
  have HF1 := Aside0.mk (fun W (hb : Below w.heap.size w W) => rFind_any W B d s.f1 x.f2 (Kd.C_below h2 hb) HM.2.1)
  have HF2 := Aside0.mk (fun W (hb : Below w.heap.size w W) => rFind_any W C e s.f2 x.f2 (Kd.C_below h3 hb) HM.2.2)
  obtain ⟨k, u, p, q⟩ := x
  dsimp only at HH HK HF1 HF2 ⊢
  generalize findS s.f1 p = l at *
  generalize findS s.f2 p = r at *
  obtain ⟨l, il⟩ := l
  obtain ⟨r, ir⟩ := r
  dsimp only at *
  have HL := Aside0.mk (rfl : rreadyS s ⟨k, u, p, q⟩ (l, il) (r, ir) = rreadyS s ⟨k, u, p, q⟩ (l, il) (r, ir))
  obtain ⟨res, hres⟩ : ∃ b, rreadyS s ⟨k, u, p, q⟩ (l, il) (r, ir) = b := ⟨_, rfl⟩
  rw [hres]
  unfold rreadyS at hres
  dsimp only at hres
  have HRES := Aside0.mk hres
  clear hres HL
  clear hs ho hx l1 l2 l3 h1 h2 h3 HM
  generalize s.f0.length = n0 at *
  generalize s.f1.length = n1 at *
  generalize s.f2.length = n2 at *
  generalize hasK s q = hk at *
  go_enter Tryd.func37, Tryd.ntmps37
  go_wp2_with fail
  refine (HF1.out _ (bel _ _)).mono ?_
  rintro r1 w1 ⟨rfl, hb⟩
  have p1 := prev_call hb
  have s1 : w.heap.size + 1 < w1.heap.size := held_lt (W := w1) (g := w.heap.size + 1)
  have o1 : OwnB w.heap.size (.row w1.heap.size) := own_row (by omega)
  have a1 : Apart w.heap.size (.row w1.heap.size) := apart_ne (by omega)
  have b1 : Apart (w.heap.size + 1) (.row w1.heap.size) := apart_ne (by omega)
  clear hb
  go_wp2_with fail
  refine (HF2.out _ (bel _ _)).mono ?_
  rintro r2 w2 ⟨rfl, hb⟩
  have p2 := prev_call hb
  have s2 : w1.heap.size < w2.heap.size := held_lt (W := w2) (g := w1.heap.size)
  have o2 : OwnB w.heap.size (.row w2.heap.size) := own_row (by omega)
  have a2 : Apart w.heap.size (.row w2.heap.size) := apart_ne (by omega)
  have b2 : Apart (w.heap.size + 1) (.row w2.heap.size) := apart_ne (by omega)
  have c2 : Apart w1.heap.size (.row w2.heap.size) := apart_ne (by omega)
  clear hb s1 s2
  clear HF1 HF2
  rcases (show k = 1 ∨ k = 2 ∨ k = 3 ∨ k = 4 ∨ k = 5 ∨ k = 6 ∨ k = 7 ∨ (k ≠ 1 ∧ k ≠ 2 ∧ k ≠ 3 ∧ k ≠ 4 ∧ k ≠ 5 ∧ k ≠ 6 ∧ k ≠ 7) by omega) with h | h | h | h | h | h | h | h
  · subst h
    have hr : (il && (r.f0 == u)) = res := HRES.out
    subst hr
    clear HRES HH HK
    cases il <;> cases ir <;> cases hv : (r.f0 == u)
    all_goals
      go_wp2_with fail
      go_ret
      exact ⟨by first | rfl | simp [hv], bel _ _⟩
  · subst h
    have hr : ((ir && (r.f0 == u)) && !il) = res := HRES.out
    subst hr
    clear HRES HH HK
    cases il <;> cases ir <;> cases hv : (r.f0 == u)
    all_goals
      go_wp2_with fail
      go_ret
      exact ⟨by first | rfl | simp [hv], bel _ _⟩
  · subst h
    have hr : (ir && (r.f0 == u)) = res := HRES.out
    subst hr
    clear HRES HH HK
    cases il <;> cases ir <;> cases hv : (r.f0 == u)
    all_goals
      go_wp2_with fail
      go_ret
      exact ⟨by first | rfl | simp [hv], bel _ _⟩
  · subst h
    have hr : (il && !ir) = res := HRES.out
    subst hr
    clear HRES HH HK
    cases il <;> cases ir <;> cases hv : (r.f0 == u)
    all_goals
      go_wp2_with fail
      go_ret
      exact ⟨by first | rfl | simp [hv], bel _ _⟩
  · subst h
    have hr : ((ir && (r.f0 == u)) && il) = res := HRES.out
    subst hr
    clear HRES HH HK
    cases il <;> cases ir <;> cases hv : (r.f0 == u)
    all_goals
      go_wp2_with fail
      go_ret
      exact ⟨by first | rfl | simp [hv], bel _ _⟩
  · subst h
    have hr : (!il && !ir) = res := HRES.out
    subst hr
    clear HRES HH HK
    cases il <;> cases ir <;> cases hv : (r.f0 == u)
    all_goals
      go_wp2_with fail
      go_ret
      exact ⟨by first | rfl | simp [hv], bel _ _⟩
  · subst h
    have hr : ((ir && (r.f0 == u)) && (il && (decide (kindS q = (2, 0)) && !hk))) = res := HRES.out
    subst hr
    clear HRES
    generalize hkq : kindS q = kq at HK
    obtain ⟨k1, k2⟩ := kq
    dsimp only at HK
    cases il <;> cases ir <;> cases hv : (r.f0 == u)
    all_goals
      go_wp2_with fail
      refine (HK.out _).mono ?_
      rintro r1 w3 ⟨rfl, hb⟩
      have p3 := prev_call hb
      clear hb
      by_cases hk2 : k2 = 0
      · subst hk2
        by_cases hk1 : k1 = 2
        · subst hk1
          go_wp2_with fail
          all_goals first
            | (go_ret
               exact ⟨by first | rfl | simp [hv, hkq], bel _ _⟩)
            | (refine (HH.out _ (bel _ _)).mono ?_
               rintro r2 w4 ⟨rfl, hb⟩
               have p4 := prev_call hb
               clear hb
               go_wp2_with fail
               go_ret
               exact ⟨by simp [hv, hkq], bel _ _⟩)
        · have hk3 : (k1 == 2) = false := beq_eq_false_iff_ne.mpr hk1
          go_wp2_with fail
          all_goals
            go_ret
            exact ⟨by first | rfl | simp [hk1, hv, hkq], bel _ _⟩
      · have hk3 : (k2 == 0) = false := beq_eq_false_iff_ne.mpr hk2
        go_wp2_with fail
        all_goals
          go_ret
          exact ⟨by first | rfl | simp [hk2, hv, hkq], bel _ _⟩
  · obtain ⟨h1, h2, h3, h4, h5, h6, h7⟩ := h
    have hr := HRES.out
    rw [if_neg h1, if_neg h2, if_neg h3, if_neg h4, if_neg h5, if_neg h6, if_neg h7] at hr
    subst hr
    clear HRES HH HK
    have b1 : (k == 1) = false := beq_eq_false_iff_ne.mpr h1
    have b2 : (k == 2) = false := beq_eq_false_iff_ne.mpr h2
    have b3 : (k == 3) = false := beq_eq_false_iff_ne.mpr h3
    have b4 : (k == 4) = false := beq_eq_false_iff_ne.mpr h4
    have b5 : (k == 5) = false := beq_eq_false_iff_ne.mpr h5
    have b6 : (k == 6) = false := beq_eq_false_iff_ne.mpr h6
    have b7 : (k == 7) = false := beq_eq_false_iff_ne.mpr h7
    clear h1 h2 h3 h4 h5 h6 h7
    cases ir <;> cases hv : (r.f0 == u)
    all_goals
      go_wp2_with fail
      go_ret
      exact ⟨rfl, bel _ _⟩
end Go.Proofs.YtjllbkeobibnkaaDoor.Q

namespace Go.Proofs.YtjllbkeobibnkaaDoor.Q
open Go Go.Proofs Go.Shelf Go.RowKit Go.Lib Go.Sort Go.Proofs.YtjllbkeobibnkaaDoorP Go.Proofs.YtjllbkeobibnkaaDoorK Go.Proofs.YtjllbkeobibnkaaDoorW.PrintWords Go.Proofs.YtjllbkeobibnkaaDoorW.PrintLast Go.Proofs.YtjllbkeobibnkaaDoorW.PrintMore
set_option linter.unusedSimpArgs false
set_option linter.unusedVariables false
/-! ### The document's With -/
def rwA (k : S58) : Bool → List S58 → List S58
  | put, [] => if put = true then [] else [k]
  | put, x :: l => if pcmp x.f0 k.f0 < 0 then x :: rwA k put l else if pcmp x.f0 k.f0 = 0 then (if put = true then [] else [k]) ++ rwA k true l else (if put = true then [] else [k]) ++ x :: rwA k true l
theorem rwA_t (k x : S58) (l : List S58) (z : Int) : rwA k true (x :: l) = if pcmp x.f0 k.f0 < 0 then x :: rwA k true l else if pcmp x.f0 k.f0 = 0 then rwA k true l else x :: rwA k true l := rfl
theorem rwA_f (k x : S58) (l : List S58) (z : Int) : rwA k false (x :: l) = if pcmp x.f0 k.f0 < 0 then x :: rwA k false l else if pcmp x.f0 k.f0 = 0 then k :: rwA k true l else k :: x :: rwA k true l := rfl
theorem rwA_rest {k : S58} {l : List S58} (h : ∀ x ∈ l, 0 < pcmp x.f0 k.f0) : rwA k true l = l := by
  induction l with
  | nil => rfl
  | cons x l ih =>
    have h1 := h x List.mem_cons_self
    rw [rwA_t k x l 0, if_neg (by omega), if_neg (by omega), ih (fun y hy => h y (List.mem_cons_of_mem _ hy))]
theorem rwA_ins (p : ByteArray) (a : S51) {l : List S58} (hr : risK l) : rwA ⟨p, a⟩ false l = insS p a l := by
  induction l with
  | nil => rfl
  | cons x l ih =>
    have h1 := List.pairwise_cons.1 hr
    rw [rwA_f _ x l 0]
    unfold insS
    dsimp only
    by_cases h : pcmp x.f0 p < 0
    · rw [if_pos h, if_pos h, ih h1.2]
    · rw [if_neg h, if_neg h]
      have hp : ∀ y ∈ l, 0 < pcmp y.f0 p := fun y hy => by
        have h2 := h1.1 y hy
        by_cases h0 : pcmp x.f0 p = 0
        · rw [← good_path.eq _ _ h0]
          exact (good_path.lt _ _).1 h2
        · have h3 : pcmp p x.f0 < 0 := (good_path.lt _ _).2 (by omega)
          exact (good_path.lt _ _).1 (good_path.trans _ _ _ h3 h2)
      rw [rwA_rest hp]
theorem At_far {w w' w'' : World} {ad : Addr} {cs : List Value} {b : Nat} (h : At w ad cs) (hb : Below b w' w'') (hlt : ad.block < b ∧ At w' ad cs) : At w'' ad cs := fun j u hj => by
  have h1 := hlt.2 j u hj
  unfold World.cell? at h1 ⊢
  have e : (ad.add j).block = ad.block := by unfold Addr.add; split <;> rfl
  rw [hb.block (ad.add j).block (by rw [e]; exact hlt.1)]
  exact h1
theorem below_two {b : Nat} {w w1 w2 w3 : World} (h1 : Below b w w1) (h2 : Below b w1 w2) (h3 : Below b w2 w3) : Below b w w3 := (h1.trans h2).trans h3
attribute [local go_sem] A51_size A51_0 A51_1 A51_g0 A51_g1 A58_size A58_0 A58_1 A58_2 A58_g0 A58_g1 A58_g2 cell_held frozen_held
attribute [local go_sem] zero51 zero58 zero65 laid58
attribute [local go_sem ↓ high] lvx_of
attribute [local go_sem] lv_sc lv24 lv33
attribute [local go_sem ↓ high] lv51 lv51s lv58 lv58a lv65 lv65a lv65l lv65r sc51 sc58 sc65 sc65a sc65l sc65r sc58a
set_option maxRecDepth 100000 in
set_option maxHeartbeats 4000000 in
theorem rwith_any (w : World) (A : Option Addr) (c : Nat) (l : List S58) (k : S58) (hC : k58.C w A l.length l) (hs : shortK l = true) (hl2 : l.length ≤ 100000) (hk : k.f0.size ≤ 65536) :
    Calls Tryd.prog 39 #[.slice A l.length c, .agg (A58 k)] w fun e w' => ∃ v, e = .returned v ∧ k58.R 58 w' w.heap.size (fun _ => True) v (rwA k false l) ∧ Below w.heap.size w w' := by
  obtain ⟨hl, hsz⟩ := shortK_open hs
  have HR := Aside0.mk hC
  have HZ := Aside0.mk hsz
  have HK := Aside0.mk hk
  obtain ⟨R, hR⟩ : ∃ R, rwA k false l = R := ⟨_, rfl⟩
  rw [hR]
  have HRR := Aside0.mk hR
  clear hC hs hsz hR hk
  go_enter Tryd.func39, Tryd.ntmps39
  go_wp2_with fail
  have hbox : Go.Proofs.YtjllbkeobibnkaaDoorK.Holds (w.alloc (.cells (A58 k) 58)) w.heap.size (.cells (A58 k) 58) := inferInstance
  go_loopw [5, 6, 7] (fun u pv i wr => ∃ (j : Nat) (out : List S58) (put : Bool), j ≤ l.length ∧ i = .int .i64 (j : Int) ∧ pv = .bool put ∧ Aside0 (out ++ rwA k put (l.drop j) = R) ∧ out.length ≤ 2 * j + 1 ∧ Aside0 (k58.R 58 wr (w.heap.size + 1) (fun _ => True) u out) ∧ Aside0 (Go.Proofs.YtjllbkeobibnkaaDoorK.Holds wr w.heap.size (.cells (A58 k) 58)) ∧ Aside0 (Below (w.heap.size + 1) (w.alloc (.cells (A58 k) 58)) wr)) (fun _ _ i _ => l.length - (intOf i).toNat)
  case atStart => exact ⟨0, [], false, Nat.zero_le _, rfl, rfl, HRR, by simp, ⟨Kd.R_nil _ _ _ _ _⟩, ⟨inferInstance⟩, ⟨Below.refl _ _⟩⟩
  case round =>
    obtain ⟨j, out, put, hj, rfl, rfl, HI, hol, HO, HH, HBR⟩ := hrel
    have hh := HH.out
    have hsz1 : w.heap.size + 1 ≤ wr.heap.size := by have := HBR.out.size; rw [World.size_alloc] at this; exact this
    have pr := prev_above HBR.out
    have bw : Bel w.heap.size w wr := ⟨fun _ => (below_alloc (Below.refl w.heap.size w) _).trans (HBR.out.mono (Nat.le_succ _))⟩
    obtain ⟨Ao, co, ho⟩ := Kd.R_slice HO.out
    subst ho
    by_cases hlt : j < l.length
    · obtain ⟨ad, e0, x0⟩ := C58_at HR.out j hlt
      subst e0
      have hI := HI.out
      rw [List.drop_eq_getElem_cons hlt] at hI
      have hz0 := HZ.out _ (List.getElem_mem hlt)
      generalize l[j] = x at x0 hI hz0
      have hbl : (ad.add (j * 35)).block < w.heap.size + 1 := by
        have := World.block_lt_of_cell? w _ (x0 0 _ rfl)
        rw [Go.Proofs.YtjllbkeobibnkaaDoorK.add_zero_] at this
        omega
      replace x0 := At_below x0 (bel w wr)
      have X0 := Aside0.mk x0
      have X0E := Aside0.mk (And.intro hbl x0)
      have HCX := Aside0.mk (fun W => rCmp_any W x.f0 k.f0 hz0 HK.out)
      have x1 := (At58 x0).1
      rw [add_zero_] at x1
      cases put with
        | false =>
          rw [rwA_f k x _ 0] at hI
          generalize pcmp x.f0 k.f0 = z at HCX hI
          have HII := Aside0.mk hI
          clear hI
          rcases (show z < 0 ∨ z = 0 ∨ 0 < z by omega) with hz | hz | hz
          · have g1 : ¬ (0 ≤ z) := by omega
            have g3 : (z != 0) = true := bne_iff_ne.mpr (by omega)
            have hI := HII.out
            rw [if_pos hz] at hI
            have HIN : Aside0 ((out ++ [x]) ++ rwA k false (l.drop (j + 1)) = R) := ⟨by rw [← hI] <;> simp⟩
            clear hI HII hz
            go_wp2_with fail
            go_still_tail 7, (by kernel_rfl)
            change wpList _ _ _ _ _ wr.drew
            have p2 : Prev wr.drew wr .none := inferInstance
            generalize wr.drew = w2 at p2 ⊢
            go_wp2_with fail
            refine (HCX.out _).mono ?_
            rintro e w3 ⟨rfl, hb⟩
            have p3 := prev_call hb
            clear hb
            have X3 := Aside0.mk (At_below X0.out (bel wr w3))
            go_wp2_with (first
              | (refine seg_load rfl 58 (.tmp 38) rfl X3.out (A58 x) rfl rfl Tryd.underlying58 rfl (by rw [L58_len]; exact info58s) ?_)
              | ((with_reducible refine gate_builtin (b := .append) (xs := #[.tmp 35, .tmp 40]) rfl ?_); at_builtin; refine app58 (w0 := wr) (w.heap.size + 1) rfl (.tmp 35) (.tmp 40) rfl (.slice Ao out.length co) out x rfl ?aX ?aO ?aB ?aS ?aL ?_; (case aX => first | rfl | (simp only [World.size_setCell, size_setRow, World.size_alloc]; rfl)); (case aO => exact rowB HO.out (bel wr _)); (case aB => exact (inferInstance : Bel (w.heap.size + 1) wr _).out (by first | exact Nat.le_refl _ | omega)); (case aS => exact Nat.le_trans (by omega) (siz wr _)); (case aL => omega); intro v7 w7 h7 hb7 hg7 hat7; have p7 := prev_above hb7; have HB7 := Aside0.mk hb7; have HV7 := Aside0.mk h7; clear hb7 h7 hg7 hat7))
            go_roundw
            case rel => exact ⟨j + 1, out ++ [x], false, by omega, by go_num, rfl, HIN, by (try simp only [List.length_append, List.length_singleton] at *); omega, HV7, ⟨inferInstance⟩, ⟨HBR.out.trans HB7.out⟩⟩
            case measure => simp [intOf]; omega
          · subst hz
            have hI := HII.out
            rw [if_neg (by omega), if_pos rfl] at hI
            have HIN : Aside0 ((out ++ [k]) ++ rwA k true (l.drop (j + 1)) = R) := ⟨by rw [← hI] <;> simp⟩
            clear hI HII
            go_wp2_with fail
            go_still_tail 7, (by kernel_rfl)
            change wpList _ _ _ _ _ wr.drew
            have p2 : Prev wr.drew wr .none := inferInstance
            generalize wr.drew = w2 at p2 ⊢
            go_wp2_with fail
            refine (HCX.out _).mono ?_
            rintro e w3 ⟨rfl, hb⟩
            have p3 := prev_call hb
            clear hb
            have X3 := Aside0.mk (At_below X0.out (bel wr w3))
            go_wp2_with (first
              | ((with_reducible refine gate_builtin (b := .append) (xs := #[.tmp 29, .tmp 31]) rfl ?_); at_builtin; refine app58 (w0 := wr) (w.heap.size + 1) rfl (.tmp 29) (.tmp 31) rfl (.slice Ao out.length co) out k rfl ?aX ?aO ?aB ?aS ?aL ?_; (case aX => first | rfl | (simp only [World.size_setCell, size_setRow, World.size_alloc]; rfl)); (case aO => exact rowB HO.out (bel wr _)); (case aB => exact (inferInstance : Bel (w.heap.size + 1) wr _).out (by first | exact Nat.le_refl _ | omega)); (case aS => exact Nat.le_trans (by omega) (siz wr _)); (case aL => omega); intro v6 w6 h6 hb6 hg6 hat6; have p6 := prev_above hb6; have HB6 := Aside0.mk hb6; have HV6 := Aside0.mk h6; clear hb6 h6 hg6 hat6))
            go_roundw
            case rel => exact ⟨j + 1, out ++ [k], true, by omega, by go_num, rfl, HIN, by (try simp only [List.length_append, List.length_singleton] at *); omega, HV6, ⟨inferInstance⟩, ⟨HBR.out.trans HB6.out⟩⟩
            case measure => simp [intOf]; omega
          · have g1 : 0 ≤ z := by omega
            have g3 : (z != 0) = true := bne_iff_ne.mpr (by omega)
            have hI := HII.out
            rw [if_neg (by omega), if_neg (by omega)] at hI
            have HIN : Aside0 ((out ++ [k] ++ [x]) ++ rwA k true (l.drop (j + 1)) = R) := ⟨by rw [← hI] <;> simp⟩
            clear hI HII hz
            go_wp2_with fail
            go_still_tail 7, (by kernel_rfl)
            change wpList _ _ _ _ _ wr.drew
            have p2 : Prev wr.drew wr .none := inferInstance
            generalize wr.drew = w2 at p2 ⊢
            go_wp2_with fail
            refine (HCX.out _).mono ?_
            rintro e w3 ⟨rfl, hb⟩
            have p3 := prev_call hb
            clear hb
            have X3 := Aside0.mk (At_below X0.out (bel wr w3))
            go_wp2_with (first
              | ((with_reducible refine gate_builtin (b := .append) (xs := #[.tmp 29, .tmp 31]) rfl ?_); at_builtin; refine app58 (w0 := wr) (w.heap.size + 1) rfl (.tmp 29) (.tmp 31) rfl (.slice Ao out.length co) out k rfl ?aX ?aO ?aB ?aS ?aL ?_; (case aX => first | rfl | (simp only [World.size_setCell, size_setRow, World.size_alloc]; rfl)); (case aO => exact rowB HO.out (bel wr _)); (case aB => exact (inferInstance : Bel (w.heap.size + 1) wr _).out (by first | exact Nat.le_refl _ | omega)); (case aS => exact Nat.le_trans (by omega) (siz wr _)); (case aL => omega); intro v6 w6 h6 hb6 hg6 hat6; have p6 := prev_above hb6; have HB6 := Aside0.mk hb6; obtain ⟨A6, c6, e6⟩ := Kd.R_slice h6; subst e6; rw [List.length_append, List.length_singleton] at h6; have HV6 := Aside0.mk h6; clear hb6 h6 hg6 hat6)
              | (refine seg_load rfl 58 (.tmp 38) rfl (At_far X3.out HB6.out X0E.out) (A58 x) rfl rfl Tryd.underlying58 rfl (by rw [L58_len]; exact info58s) ?_)
              | ((with_reducible refine gate_builtin (b := .append) (xs := #[.tmp 35, .tmp 40]) rfl ?_); at_builtin; refine app58 (w0 := w6) (w.heap.size + 1) rfl (.tmp 35) (.tmp 40) rfl (.slice A6 (out.length + 1) c6) (out ++ [k]) x rfl ?aX ?aO ?aB ?aS ?aL ?_; (case aX => first | rfl | (simp only [World.size_setCell, size_setRow, World.size_alloc]; rfl)); (case aO => exact rowB HV6.out (bel w6 _)); (case aB => exact (inferInstance : Bel (w.heap.size + 1) w6 _).out (by have := HB6.out.size; omega)); (case aS => exact Nat.le_trans (by have := HB6.out.size; omega) (siz w6 _)); (case aL => simp only [List.length_append, List.length_singleton]; omega); intro v7 w7 h7 hb7 hg7 hat7; have p7 := prev_above hb7; have HB7 := Aside0.mk hb7; have HV7 := Aside0.mk h7; clear hb7 h7 hg7 hat7))
            go_roundw
            case rel => exact ⟨j + 1, out ++ [k] ++ [x], true, by omega, by go_num, rfl, HIN, by (try simp only [List.length_append, List.length_singleton] at *); omega, HV7, ⟨inferInstance⟩, ⟨below_two HBR.out HB6.out HB7.out⟩⟩
            case measure => simp [intOf]; omega
        | true =>
          rw [rwA_t k x _ 0] at hI
          generalize pcmp x.f0 k.f0 = z at HCX hI
          have HII := Aside0.mk hI
          clear hI
          rcases (show z < 0 ∨ z = 0 ∨ 0 < z by omega) with hz | hz | hz
          · have g1 : ¬ (0 ≤ z) := by omega
            have g3 : (z != 0) = true := bne_iff_ne.mpr (by omega)
            have hI := HII.out
            rw [if_pos hz] at hI
            have HIN : Aside0 ((out ++ [x]) ++ rwA k true (l.drop (j + 1)) = R) := ⟨by rw [← hI] <;> simp⟩
            clear hI HII hz
            go_wp2_with fail
            go_still_tail 7, (by kernel_rfl)
            change wpList _ _ _ _ _ wr.drew
            have p2 : Prev wr.drew wr .none := inferInstance
            generalize wr.drew = w2 at p2 ⊢
            go_wp2_with fail
            refine (HCX.out _).mono ?_
            rintro e w3 ⟨rfl, hb⟩
            have p3 := prev_call hb
            clear hb
            have X3 := Aside0.mk (At_below X0.out (bel wr w3))
            go_wp2_with (first
              | (refine seg_load rfl 58 (.tmp 38) rfl X3.out (A58 x) rfl rfl Tryd.underlying58 rfl (by rw [L58_len]; exact info58s) ?_)
              | ((with_reducible refine gate_builtin (b := .append) (xs := #[.tmp 35, .tmp 40]) rfl ?_); at_builtin; refine app58 (w0 := wr) (w.heap.size + 1) rfl (.tmp 35) (.tmp 40) rfl (.slice Ao out.length co) out x rfl ?aX ?aO ?aB ?aS ?aL ?_; (case aX => first | rfl | (simp only [World.size_setCell, size_setRow, World.size_alloc]; rfl)); (case aO => exact rowB HO.out (bel wr _)); (case aB => exact (inferInstance : Bel (w.heap.size + 1) wr _).out (by first | exact Nat.le_refl _ | omega)); (case aS => exact Nat.le_trans (by omega) (siz wr _)); (case aL => omega); intro v7 w7 h7 hb7 hg7 hat7; have p7 := prev_above hb7; have HB7 := Aside0.mk hb7; have HV7 := Aside0.mk h7; clear hb7 h7 hg7 hat7))
            go_roundw
            case rel => exact ⟨j + 1, out ++ [x], true, by omega, by go_num, rfl, HIN, by (try simp only [List.length_append, List.length_singleton] at *); omega, HV7, ⟨inferInstance⟩, ⟨HBR.out.trans HB7.out⟩⟩
            case measure => simp [intOf]; omega
          · subst hz
            have hI := HII.out
            rw [if_neg (by omega), if_pos rfl] at hI
            have HIN : Aside0 ((out) ++ rwA k true (l.drop (j + 1)) = R) := ⟨by rw [← hI] <;> simp⟩
            clear hI HII
            go_wp2_with fail
            go_still_tail 7, (by kernel_rfl)
            change wpList _ _ _ _ _ wr.drew
            have p2 : Prev wr.drew wr .none := inferInstance
            generalize wr.drew = w2 at p2 ⊢
            go_wp2_with fail
            refine (HCX.out _).mono ?_
            rintro e w3 ⟨rfl, hb⟩
            have p3 := prev_call hb
            clear hb
            have X3 := Aside0.mk (At_below X0.out (bel wr w3))
            go_wp2_with fail
            go_roundw
            case rel => exact ⟨j + 1, out, true, by omega, by go_num, rfl, HIN, by (try simp only [List.length_append, List.length_singleton] at *); omega, ⟨rowB HO.out (bel wr _)⟩, ⟨inferInstance⟩, ⟨HBR.out.trans ((inferInstance : Bel (w.heap.size + 1) wr _).out (by omega))⟩⟩
            case measure => simp [intOf]; omega
          · have g1 : 0 ≤ z := by omega
            have g3 : (z != 0) = true := bne_iff_ne.mpr (by omega)
            have hI := HII.out
            rw [if_neg (by omega), if_neg (by omega)] at hI
            have HIN : Aside0 ((out ++ [x]) ++ rwA k true (l.drop (j + 1)) = R) := ⟨by rw [← hI] <;> simp⟩
            clear hI HII hz
            go_wp2_with fail
            go_still_tail 7, (by kernel_rfl)
            change wpList _ _ _ _ _ wr.drew
            have p2 : Prev wr.drew wr .none := inferInstance
            generalize wr.drew = w2 at p2 ⊢
            go_wp2_with fail
            refine (HCX.out _).mono ?_
            rintro e w3 ⟨rfl, hb⟩
            have p3 := prev_call hb
            clear hb
            have X3 := Aside0.mk (At_below X0.out (bel wr w3))
            go_wp2_with (first
              | (refine seg_load rfl 58 (.tmp 38) rfl X3.out (A58 x) rfl rfl Tryd.underlying58 rfl (by rw [L58_len]; exact info58s) ?_)
              | ((with_reducible refine gate_builtin (b := .append) (xs := #[.tmp 35, .tmp 40]) rfl ?_); at_builtin; refine app58 (w0 := wr) (w.heap.size + 1) rfl (.tmp 35) (.tmp 40) rfl (.slice Ao out.length co) out x rfl ?aX ?aO ?aB ?aS ?aL ?_; (case aX => first | rfl | (simp only [World.size_setCell, size_setRow, World.size_alloc]; rfl)); (case aO => exact rowB HO.out (bel wr _)); (case aB => exact (inferInstance : Bel (w.heap.size + 1) wr _).out (by first | exact Nat.le_refl _ | omega)); (case aS => exact Nat.le_trans (by omega) (siz wr _)); (case aL => omega); intro v7 w7 h7 hb7 hg7 hat7; have p7 := prev_above hb7; have HB7 := Aside0.mk hb7; have HV7 := Aside0.mk h7; clear hb7 h7 hg7 hat7))
            go_roundw
            case rel => exact ⟨j + 1, out ++ [x], true, by omega, by go_num, rfl, HIN, by (try simp only [List.length_append, List.length_singleton] at *); omega, HV7, ⟨inferInstance⟩, ⟨HBR.out.trans HB7.out⟩⟩
            case measure => simp [intOf]; omega
    · have hI := HI.out
      rw [List.drop_of_length_le (by omega)] at hI
      cases put with
      | true =>
        have hI2 : out = R := by rw [← hI]; simp [rwA]
        have HIE := Aside0.mk hI2
        clear hI HI hI2
        go_wp2_with fail
        go_ret
        exact ⟨_, rfl, by rw [← HIE.out]; exact Kd.R_lower HO.out (by omega), bel _ _⟩
      | false =>
        have hI2 : out ++ [k] = R := by rw [← hI]; simp [rwA]
        have HIE := Aside0.mk hI2
        clear hI HI hI2
        go_wp2_with ((with_reducible refine gate_builtin (b := .append) (xs := #[.tmp 44, .tmp 46]) rfl ?_); at_builtin; refine app58 (w0 := wr) (w.heap.size + 1) rfl (.tmp 44) (.tmp 46) rfl (.slice Ao out.length co) out k rfl ?aX ?aO ?aB ?aS ?aL ?_; (case aX => first | rfl | (simp only [World.size_setCell, size_setRow, World.size_alloc]; rfl)); (case aO => exact rowB HO.out (bel wr _)); (case aB => exact (inferInstance : Bel (w.heap.size + 1) wr _).out (by first | exact Nat.le_refl _ | omega)); (case aS => exact Nat.le_trans (by omega) (siz wr _)); (case aL => omega); intro v6 w6 h6 hb6 hg6 hat6; have p6 := prev_above hb6; have HB6 := Aside0.mk hb6; have HV6 := Aside0.mk h6; clear hb6 h6 hg6 hat6)
        go_ret
        exact ⟨_, rfl, by rw [← HIE.out]; exact Kd.R_lower HV6.out (by omega), (below_alloc (Below.refl w.heap.size w) _).trans ((HBR.out.trans HB6.out).mono (Nat.le_succ _))⟩
end Go.Proofs.YtjllbkeobibnkaaDoor.Q

namespace Go.Proofs.YtjllbkeobibnkaaDoor.Q
open Go Go.Proofs Go.Shelf Go.RowKit Go.Lib Go.Sort Go.Proofs.YtjllbkeobibnkaaDoorP Go.Proofs.YtjllbkeobibnkaaDoorK Go.Proofs.YtjllbkeobibnkaaDoorW.PrintWords Go.Proofs.YtjllbkeobibnkaaDoorW.PrintLast Go.Proofs.YtjllbkeobibnkaaDoorW.PrintMore
set_option linter.unusedSimpArgs false
set_option linter.unusedVariables false
/-! ### The document's Without -/
attribute [local go_sem] A51_size A51_0 A51_1 A51_g0 A51_g1 A58_size A58_0 A58_1 A58_2 A58_g0 A58_g1 A58_g2 cell_held frozen_held
attribute [local go_sem] zero51 zero58 zero65 laid58
attribute [local go_sem ↓ high] lvx_of
attribute [local go_sem] lv_sc lv24 lv33
attribute [local go_sem ↓ high] lv51 lv51s lv58 lv58a lv65 lv65a lv65l lv65r sc51 sc58 sc65 sc65a sc65l sc65r sc58a
theorem woS_cons (x : S58) (l : List S58) (p : ByteArray) : woS (x :: l) p = if eqP p x = true then woS l p else x :: woS l p := by
  unfold woS
  rw [List.filter_cons]
  cases eqP p x <;> rfl
set_option maxRecDepth 100000 in
set_option maxHeartbeats 4000000 in
theorem rwo_any (w : World) (A : Option Addr) (c : Nat) (l : List S58) (p : ByteArray) (hC : k58.C w A l.length l) (hl : l.length ≤ 1048576) :
    Calls Tryd.prog 40 #[.slice A l.length c, .string p] w fun e w' => ∃ v, e = .returned v ∧ k58.R 58 w' w.heap.size (fun _ => True) v (woS l p) ∧ Below w.heap.size w w' := by
  have HR := Aside0.mk hC
  obtain ⟨R, hR⟩ : ∃ R, woS l p = R := ⟨_, rfl⟩
  rw [hR]
  have HRR := Aside0.mk hR
  clear hC hR
  go_enter Tryd.func40, Tryd.ntmps40
  go_wp2_with fail
  go_loopw [5, 6] (fun u i wr => ∃ (j : Nat) (out : List S58), j ≤ l.length ∧ i = .int .i64 (j : Int) ∧ Aside0 (out ++ woS (l.drop j) p = R) ∧ out.length ≤ j ∧ Aside0 (k58.R 58 wr w.heap.size (fun _ => True) u out) ∧ Aside0 (Below w.heap.size w wr)) (fun _ i _ => l.length - (intOf i).toNat)
  case atStart => exact ⟨0, [], Nat.zero_le _, rfl, HRR, Nat.le_refl _, ⟨Kd.R_nil _ _ _ _ _⟩, ⟨bel _ _⟩⟩
  case round =>
    obtain ⟨j, out, hj, rfl, HI, hol, HO, HB⟩ := hrel
    have bw : Bel w.heap.size w wr := ⟨fun _ => HB.out⟩
    obtain ⟨Ao, co, ho⟩ := Kd.R_slice HO.out
    subst ho
    by_cases hlt : j < l.length
    · obtain ⟨ad, e0, x0⟩ := C58_at HR.out j hlt
      subst e0
      have hI := HI.out
      rw [List.drop_eq_getElem_cons hlt, woS_cons] at hI
      generalize l[j] = x at x0 hI
      replace x0 := At_below x0 HB.out
      have X0 := Aside0.mk x0
      have x1 := (At58 x0).1
      rw [add_zero_] at x1
      clear x0 HI
      cases hq : eqP p x with
      | true =>
        rw [if_pos hq] at hI
        have HIN := Aside0.mk hI
        have hx : (x.f0.toList == p.toList) = true := hq
        have hx2 : (x.f0.toList != p.toList) = false := by rw [bne, hx]; rfl
        clear hI hq
        go_wp2_with fail
        go_roundw
        case rel => exact ⟨j + 1, out, by omega, by go_num, HIN, by omega, ⟨rowB HO.out (bel wr _)⟩, ⟨bel _ _⟩⟩
        case measure => simp [intOf]; omega
      | false =>
        rw [if_neg (by rw [hq]; decide)] at hI
        have HIN : Aside0 ((out ++ [x]) ++ woS (l.drop (j + 1)) p = R) := ⟨by rw [← hI]; simp⟩
        have hx : (x.f0.toList == p.toList) = false := hq
        have hx2 : (x.f0.toList != p.toList) = true := by rw [bne, hx]; rfl
        clear hI hq
        go_wp2_with (first
          | (refine seg_load rfl 58 (.tmp 23) rfl X0.out (A58 x) rfl rfl Tryd.underlying58 rfl (by rw [L58_len]; exact info58s) ?_)
          | ((with_reducible refine gate_builtin (b := .append) (xs := #[.tmp 20, .tmp 25]) rfl ?_); at_builtin; refine app58 (w0 := w) w.heap.size rfl (.tmp 20) (.tmp 25) rfl (.slice Ao out.length co) out x rfl ?aX ?aO ?aB ?aS ?aL ?_; (case aX => rfl); (case aO => exact rowB HO.out (bel wr _)); (case aB => exact bel w _); (case aS => exact siz w _); (case aL => omega); intro v6 w6 h6 hb6 hg6 hat6; have HB6 := Aside0.mk hb6; have HV6 := Aside0.mk h6; clear hb6 h6 hg6 hat6))
        go_roundw
        case rel => exact ⟨j + 1, _, by omega, by go_num, HIN, by simp only [List.length_append, List.length_singleton]; omega, HV6, HB6⟩
        case measure => simp [intOf]; omega
    · have hI := HI.out
      rw [List.drop_of_length_le (by omega)] at hI
      have hI2 : out = R := by rw [← hI]; simp [woS]
      have HIE := Aside0.mk hI2
      clear hI HI hI2
      go_wp2_with fail
      go_ret
      exact ⟨_, rfl, by rw [← HIE.out]; exact HO.out, bel _ _⟩
end Go.Proofs.YtjllbkeobibnkaaDoor.Q

namespace Go.Proofs.YtjllbkeobibnkaaDoor.Q
open Go Go.Proofs Go.Shelf Go.RowKit Go.Lib Go.Sort Go.Proofs.YtjllbkeobibnkaaDoorP Go.Proofs.YtjllbkeobibnkaaDoorK Go.Proofs.YtjllbkeobibnkaaDoorW.PrintWords Go.Proofs.YtjllbkeobibnkaaDoorW.PrintLast Go.Proofs.YtjllbkeobibnkaaDoorW.PrintMore
set_option linter.unusedSimpArgs false
set_option linter.unusedVariables false
/-! ### The document's Do -/
attribute [local go_sem] A51_size A51_0 A51_1 A51_g0 A51_g1 A58_size A58_0 A58_1 A58_2 A58_g0 A58_g1 A58_g2 cell_held frozen_held
attribute [local go_sem] zero51 zero58 zero65 A33 laid58 laid58a set51 set58
attribute [local go_sem ↓ high] lvx_of
attribute [local go_sem] lv_sc lv24 lv33
attribute [local go_sem ↓ high] lv51 lv51s lv58 lv58a lv65 lv65a lv65l lv65r sc51 sc58 sc65 sc65a sc65l sc65r sc58a
instance notIn24r : Go.Proofs.YtjllbkeobibnkaaDoorK.NotIn 24 (58 :: k58.E) := ⟨by decide⟩
theorem rowsCell {L : List Nat} {W0 W : World} {g a : Nat} {v : Value} (h : RowsX L W0 W) (hg : ∀ (k t : Nat) (cells : Array Value), W0.heap[k]? = some (Obj.cells cells t (0, 0)) → t ∈ L → k ≠ g) : RowsX L W0 (W.setCell ⟨g, a, none⟩ v) :=
  RowsX.step1 (T := .row g) inferInstance h (fun k t cells hc ht => hg k t cells hc ht)
theorem apartRow {L : List Nat} {W : World} {g t : Nat} {c : Array Value} (h : Go.Proofs.YtjllbkeobibnkaaDoorK.Holds W g (.cells c t (0, 0))) (n : Go.Proofs.YtjllbkeobibnkaaDoorK.NotIn t L) : ∀ (k t' : Nat) (cells : Array Value), W.heap[k]? = some (Obj.cells cells t' (0, 0)) → t' ∈ L → k ≠ g := by
  rintro k t' cells hc ht rfl
  rw [h.out] at hc
  cases hc
  exact n.out _ ht rfl
theorem rowsCells4 {L : List Nat} {W : World} {g1 g2 a1 a2 a3 a4 : Nat} {v1 v2 v3 v4 : Value} {c1 c2 : Array Value} (n : Go.Proofs.YtjllbkeobibnkaaDoorK.NotIn 24 L) (h1 : Go.Proofs.YtjllbkeobibnkaaDoorK.Holds W g1 (.cells c1 24 (0, 0))) (h2 : Go.Proofs.YtjllbkeobibnkaaDoorK.Holds W g2 (.cells c2 24 (0, 0))) :
    RowsX L W ((((W.setCell ⟨g1, a1, none⟩ v1).setCell ⟨g2, a2, none⟩ v2).setCell ⟨g2, a3, none⟩ v3).setCell ⟨g2, a4, none⟩ v4) :=
  rowsCell (rowsCell (rowsCell (rowsCell inferInstance (apartRow h1 n)) (apartRow h2 n)) (apartRow h2 n)) (apartRow h2 n)
class SizeEq (n : Nat) (W : World) : Prop where
  out : W.heap.size = n
instance (priority := low) sizeEq_refl (W : World) : SizeEq W.heap.size W := ⟨rfl⟩
instance sizeEq_setRow (n : Nat) (W : World) (g : Nat) (c : Array Value) [h : SizeEq n W] : SizeEq n (W.setRow g c) := ⟨by rw [setRow_size]; exact h.out⟩
instance sizeEq_setCell (n : Nat) (W : World) (a : Addr) (v : Value) [h : SizeEq n W] : SizeEq n (W.setCell a v) := ⟨by rw [World.size_setCell]; exact h.out⟩
instance sizeEq_alloc (n : Nat) (W : World) (o : Obj) [h : SizeEq n W] : SizeEq (n + 1) (W.alloc o) := ⟨by rw [World.size_alloc, h.out]⟩
instance holds_sizeEq (n : Nat) (W : World) (o : Obj) [h : SizeEq n W] : Go.Proofs.YtjllbkeobibnkaaDoorK.Holds (W.alloc o) n o := ⟨by rw [← h.out]; exact blk_new W o⟩
theorem rwithS (w : World) (A : Option Addr) (c : Nat) (l : List S58) (p : ByteArray) (a : S51) (hC : k58.C w A l.length l) (hs : shortK l = true) (hl : l.length ≤ 100000) (hp : p.size ≤ 65536) (hr : risK l) :
    Calls Tryd.prog 39 #[.slice A l.length c, .agg (A58 ⟨p, a⟩)] w fun e w' => ∃ v, e = .returned v ∧ k58.R 58 w' w.heap.size (fun _ => True) v (withS l p a) ∧ Below w.heap.size w w' := by
  have h := rwith_any w A c l ⟨p, a⟩ hC hs hl hp
  rw [rwA_ins p a hr, ← withS_ins] at h
  exact h
set_option maxRecDepth 100000 in
set_option maxHeartbeats 8000000 in
theorem rdo_any (w : World) (s : S24) (v : Array Value) (x : S33) (ver : Int) (hs : SideIn w s v) (ht : tinyS s = true) (hx2 : x.f2.size ≤ 32000) (hx3 : x.f3.size ≤ 32000) :
    Calls Tryd.prog 15 #[.agg v, .agg (A33 x), .int .i64 ver] w fun e w' => ∃ v', e = .returned (.tuple #[.agg v', .int .i64 (doS s x ver).2]) ∧ SideIn w' (doS s x ver).1 v' ∧ Below w.heap.size w w' := by
  have HK := Aside0.mk (fun W (hb : Below w.heap.size w W) => rCheck_any W s v (hs.below hb) (tinyS_ok ht))
  have HR := Aside0.mk (fun W (hb : Below w.heap.size w W) => rready_any W s v x (hs.below hb) (tinyS_ok ht) (by omega))
  have hk := @ready_kind s x (atS s x.f2)
  have h02 := checkS_two s
  have hok : checkS s = 0 → OkS s := (check_iff s).1
  have hsh := shortS_open (okS_short (tinyS_ok ht))
  obtain ⟨A, c, B, d, C, e, rfl, l1, l2, l3, h1, h2, h3⟩ := hs.out
  have HF1 := Aside0.mk (fun W (hb : Below w.heap.size w W) => show Calls Tryd.prog 38 #[.slice B s.f1.length d, .string x.f2] W fun e w' => e = .returned (.tuple #[.agg (A51 (atS s x.f2).l), .bool (atS s x.f2).inL]) ∧ Below W.heap.size W w' from rFind_any W B d s.f1 x.f2 (Kd.C_below h2 hb) hsh.2.1)
  have HF2 := Aside0.mk (fun W (hb : Below w.heap.size w W) => show Calls Tryd.prog 38 #[.slice C s.f2.length e, .string x.f2] W fun e w' => e = .returned (.tuple #[.agg (A51 (atS s x.f2).r), .bool (atS s x.f2).inR]) ∧ Below W.heap.size W w' from rFind_any W C e s.f2 x.f2 (Kd.C_below h3 hb) hsh.2.2)
  obtain ⟨t1, t2, t3⟩ := tinyS_open ht
  unfold doS
  generalize checkS s = ck at HK h02 hok ⊢
  generalize atS s x.f2 = y at HR HF1 HF2 hk ⊢
  generalize readyS s x y = rd at HR hk ⊢
  rcases h02 with rfl | rfl
  rotate_left
  · rw [if_neg (by decide)]
    obtain ⟨la, lb, lc⟩ := s
    dsimp only at *
    clear hs ht h1 h2 h3 t1 t2 t3 hok hk hsh
    generalize la.length = n0 at *
    generalize lb.length = n1 at *
    generalize lc.length = n2 at *
    go_enter Tryd.func15, Tryd.ntmps15
    go_wp2_with fail
    refine (HK.out _ (bel _ _)).mono ?_
    rintro r1 w1 ⟨rfl, hb⟩
    have p1 := prev_call hb
    clear hb
    go_wp2_with fail
    refine bodyPost_ret (results_row_tmp rfl _ _ (.int .i64 2) held rfl rfl Tryd.underlying24 rfl (by exact info24)) rfl ?_
    exact ⟨_, rfl, SideIn.ofRow (Row.nil _) (Row.nil _) (Row.nil _), bel _ _⟩
  have hos := hok rfl
  rw [if_pos rfl]
  obtain ⟨k, u, p, q⟩ := x
  obtain ⟨la, lb, lc⟩ := s
  dsimp only at *
  have HW0 := Aside0.mk (fun W (hb : Below w.heap.size w W) a => rwithS W A c la p a (Kd.C_below h1 hb) (fewK_short t1) (by have := (fewK_open t1).1; omega) (by omega) hos.a.ris)
  have HW1 := Aside0.mk (fun W (hb : Below w.heap.size w W) a => rwithS W B d lb p a (Kd.C_below h2 hb) (fewK_short t2) (by have := (fewK_open t2).1; omega) (by omega) hos.l.ris)
  have HW2 := Aside0.mk (fun W (hb : Below w.heap.size w W) a => rwithS W C e lc p a (Kd.C_below h3 hb) (fewK_short t3) (by have := (fewK_open t3).1; omega) (by omega) hos.r.ris)
  have HT := Aside0.mk (fun W (hb : Below w.heap.size w W) a => rwithS W B d lb q a (Kd.C_below h2 hb) (fewK_short t2) (by have := (fewK_open t2).1; omega) (by omega) hos.l.ris)
  have HTT := Aside0.mk (fun W A' c' a b (hC : k58.C W A' (withS lb q a).length (withS lb q a)) => rwithS W A' c' (withS lb q a) p b hC (withS_short t2 hx3 a).1 (withS_short t2 hx3 a).2 (by omega) (withS_ris hos.l.ris q a))
  have HO0 := Aside0.mk (fun W (hb : Below w.heap.size w W) => rwo_any W A c la p (Kd.C_below h1 hb) hsh.1)
  have HO1 := Aside0.mk (fun W (hb : Below w.heap.size w W) => rwo_any W B d lb p (Kd.C_below h2 hb) hsh.2.1)
  have HO2 := Aside0.mk (fun W (hb : Below w.heap.size w W) => rwo_any W C e lc p (Kd.C_below h3 hb) hsh.2.2)
  have HC0 := Aside0.mk h1
  have HC1 := Aside0.mk h2
  have HC2 := Aside0.mk h3
  have HKI := Aside0.mk hk
  obtain ⟨res, hres⟩ : ∃ r, doT ⟨la, lb, lc⟩ ⟨k, u, p, q⟩ ver y rd = r := ⟨_, rfl⟩
  rw [hres]
  have HRES := Aside0.mk hres
  clear hres
  clear hs ht h1 h2 h3 t1 t2 t3 hok hk hos hx2 hx3 hsh
  go_enter Tryd.func15, Tryd.ntmps15
  go_wp2_with fail
  refine (HK.out _ (bel _ _)).mono ?_
  rintro r1 w1 ⟨rfl, hb⟩
  have p1 := prev_call hb
  clear hb
  go_wp2_with fail
  refine (HR.out _ (bel _ _)).mono ?_
  rintro r2 w2 ⟨rfl, hb⟩
  have p2 := prev_call hb
  clear hb HK HR
  cases rd with
  | false =>
    have hr : (z24, (9 : Int)) = res := HRES.out
    subst hr
    go_wp2_with fail
    refine bodyPost_ret (results_row_tmp rfl _ _ (.int .i64 9) held rfl rfl Tryd.underlying24 rfl (by exact info24)) rfl ?_
    exact ⟨_, rfl, SideIn.ofRow (Row.nil _) (Row.nil _) (Row.nil _), bel _ _⟩
  | true =>
    have hki := HKI.out rfl
    have hr := HRES.out
    unfold doT at hr
    rw [if_pos rfl] at hr
    dsimp only at hr
    clear HKI HRES
    rcases hki with rfl | rfl | rfl | rfl | rfl | rfl | rfl
    · by_cases hv : ver < 1 ∨ 1099511627776 < ver
      · rw [if_pos ⟨rfl, hv⟩] at hr
        subst hr
        rcases hv with hv | hv
        · go_wp2_with fail
          refine bodyPost_ret (results_row_tmp rfl _ _ (.int .i64 2) held rfl rfl Tryd.underlying24 rfl (by exact info24)) rfl ?_
          exact ⟨_, rfl, SideIn.ofRow (Row.nil _) (Row.nil _) (Row.nil _), bel _ _⟩
        · have hv2 : ¬ ver < 1 := by omega
          go_wp2_with fail
          refine bodyPost_ret (results_row_tmp rfl _ _ (.int .i64 2) held rfl rfl Tryd.underlying24 rfl (by exact info24)) rfl ?_
          exact ⟨_, rfl, SideIn.ofRow (Row.nil _) (Row.nil _) (Row.nil _), bel _ _⟩
      · rw [if_neg (fun h => hv h.2)] at hr
        subst hr
        have hv1 : ¬ ver < 1 := fun h => hv (.inl h)
        have hv2 : ¬ 1099511627776 < ver := fun h => hv (.inr h)
        clear hv
        go_wp2_with fail
        refine (HF1.out _ (bel _ _)).mono ?_
        rintro r3 w3 ⟨rfl, hb⟩
        have p3 := prev_call hb
        have s3 : w.heap.size + 2 < w3.heap.size := held_lt (W := w3) (g := w.heap.size + 2)
        clear hb
        have a30 : Apart w.heap.size (.row w3.heap.size) := apart_ne (by omega)
        have a31 : Apart (w.heap.size + 1) (.row w3.heap.size) := apart_ne (by omega)
        have a32 : Apart (w.heap.size + 2) (.row w3.heap.size) := apart_ne (by omega)
        have o3 : OwnB w.heap.size (.row w3.heap.size) := own_row (by omega)
        go_wp2_with fail
        refine (HF2.out _ (bel _ _)).mono ?_
        rintro r4 w4 ⟨rfl, hb⟩
        have p4 := prev_call hb
        have s4 : w3.heap.size < w4.heap.size := held_lt (W := w4) (g := w3.heap.size)
        clear hb HF1 HF2
        have b40 : Apart w.heap.size (.row w4.heap.size) := apart_ne (by omega)
        have b41 : Apart (w.heap.size + 1) (.row w4.heap.size) := apart_ne (by omega)
        have b42 : Apart (w.heap.size + 2) (.row w4.heap.size) := apart_ne (by omega)
        have b43 : Apart w3.heap.size (.row w4.heap.size) := apart_ne (by omega)
        have b45 : Apart (w4.heap.size + 1) (.row w4.heap.size) := apart_ne (by omega)
        have b46 : Apart (w4.heap.size + 2) (.row w4.heap.size) := apart_ne (by omega)
        have o4 : OwnB w.heap.size (.row w4.heap.size) := own_row (by omega)
        have b50 : Apart w.heap.size (.row (w4.heap.size + 1)) := apart_ne (by omega)
        have b51 : Apart (w.heap.size + 1) (.row (w4.heap.size + 1)) := apart_ne (by omega)
        have b52 : Apart (w.heap.size + 2) (.row (w4.heap.size + 1)) := apart_ne (by omega)
        have b53 : Apart w3.heap.size (.row (w4.heap.size + 1)) := apart_ne (by omega)
        have b54 : Apart w4.heap.size (.row (w4.heap.size + 1)) := apart_ne (by omega)
        have b56 : Apart (w4.heap.size + 2) (.row (w4.heap.size + 1)) := apart_ne (by omega)
        have o5 : OwnB w.heap.size (.row (w4.heap.size + 1)) := own_row (by omega)
        have b60 : Apart w.heap.size (.row (w4.heap.size + 2)) := apart_ne (by omega)
        have b61 : Apart (w.heap.size + 1) (.row (w4.heap.size + 2)) := apart_ne (by omega)
        have b62 : Apart (w.heap.size + 2) (.row (w4.heap.size + 2)) := apart_ne (by omega)
        have b63 : Apart w3.heap.size (.row (w4.heap.size + 2)) := apart_ne (by omega)
        have b64 : Apart w4.heap.size (.row (w4.heap.size + 2)) := apart_ne (by omega)
        have b65 : Apart (w4.heap.size + 1) (.row (w4.heap.size + 2)) := apart_ne (by omega)
        have o6 : OwnB w.heap.size (.row (w4.heap.size + 2)) := own_row (by omega)
        have c01 : Apart (w.heap.size + 1) (.row w.heap.size) := apart_ne (by omega)
        have c02 : Apart (w.heap.size + 2) (.row w.heap.size) := apart_ne (by omega)
        have c03 : Apart w3.heap.size (.row w.heap.size) := apart_ne (by omega)
        have c04 : Apart w4.heap.size (.row w.heap.size) := apart_ne (by omega)
        have c05 : Apart (w4.heap.size + 1) (.row w.heap.size) := apart_ne (by omega)
        have c06 : Apart (w4.heap.size + 2) (.row w.heap.size) := apart_ne (by omega)
        have c23 : Apart w3.heap.size (.row (w.heap.size + 2)) := apart_ne (by omega)
        have c24 : Apart w4.heap.size (.row (w.heap.size + 2)) := apart_ne (by omega)
        have c25 : Apart (w4.heap.size + 1) (.row (w.heap.size + 2)) := apart_ne (by omega)
        have c26 : Apart (w4.heap.size + 2) (.row (w.heap.size + 2)) := apart_ne (by omega)
        have c34 : Apart w4.heap.size (.row w3.heap.size) := apart_ne (by omega)
        have c35 : Apart (w4.heap.size + 1) (.row w3.heap.size) := apart_ne (by omega)
        have c36 : Apart (w4.heap.size + 2) (.row w3.heap.size) := apart_ne (by omega)
        go_wp2_with fail
        refine (HW0.out _ (bel _ _) ({ y.l with f0 := ver })).mono ?_
        rintro e5 w5 ⟨v5, rfl, hv, hb⟩
        have p5 := prev_call hb
        obtain ⟨X5, k5, rfl⟩ := Kd.R_slice hv
        have HV5 := Aside0.mk hv
        clear hv
        clear hb
        go_wp2_with fail
        refine (HW1.out _ (bel _ _) ({ y.l with f0 := ver })).mono ?_
        rintro e6 w6 ⟨v6, rfl, hv, hb⟩
        have p6 := prev_call hb
        obtain ⟨X6, k6, rfl⟩ := Kd.R_slice hv
        have HV6 := Aside0.mk hv
        clear hv
        have HX56 := Aside0.mk (rowX (W' := w6) HV5.out)
        clear HV5
        have HV5 := HX56
        clear HX56
        clear hb
        go_wp2_with fail
        refine (HW2.out _ (bel _ _) ({ y.l with f0 := ver })).mono ?_
        rintro e7 w7 ⟨v7, rfl, hv, hb⟩
        have p7 := prev_call hb
        obtain ⟨X7, k7, rfl⟩ := Kd.R_slice hv
        have HV7 := Aside0.mk hv
        clear hv
        have HX57 := Aside0.mk (rowX (W' := w7) HV5.out)
        have HX67 := Aside0.mk (rowX (W' := w7) HV6.out)
        clear HV5
        have HV5 := HX57
        clear HX57
        clear HV6
        have HV6 := HX67
        clear HX67
        clear hb
        go_wp2_with fail
        refine bodyPost_ret (results_row_tmp rfl _ _ (.int .i64 0) held rfl rfl Tryd.underlying24 rfl (by exact info24)) rfl ?_
        exact ⟨_, rfl, SideIn.ofRow (Row.ofR (rowX HV5.out (r := rowsCells4 inferInstance inferInstance inferInstance))) (Row.ofR (rowX HV6.out (r := rowsCells4 inferInstance inferInstance inferInstance))) (Row.ofR (rowX HV7.out (r := rowsCells4 inferInstance inferInstance inferInstance))), bel _ _⟩
    · rw [if_neg (fun h => absurd h.1 (by decide))] at hr
      subst hr
      go_wp2_with fail
      refine (HF1.out _ (bel _ _)).mono ?_
      rintro r3 w3 ⟨rfl, hb⟩
      have p3 := prev_call hb
      have s3 : w.heap.size + 2 < w3.heap.size := held_lt (W := w3) (g := w.heap.size + 2)
      clear hb
      have a30 : Apart w.heap.size (.row w3.heap.size) := apart_ne (by omega)
      have a31 : Apart (w.heap.size + 1) (.row w3.heap.size) := apart_ne (by omega)
      have a32 : Apart (w.heap.size + 2) (.row w3.heap.size) := apart_ne (by omega)
      have o3 : OwnB w.heap.size (.row w3.heap.size) := own_row (by omega)
      go_wp2_with fail
      refine (HF2.out _ (bel _ _)).mono ?_
      rintro r4 w4 ⟨rfl, hb⟩
      have p4 := prev_call hb
      have s4 : w3.heap.size < w4.heap.size := held_lt (W := w4) (g := w3.heap.size)
      clear hb HF1 HF2
      have b40 : Apart w.heap.size (.row w4.heap.size) := apart_ne (by omega)
      have b41 : Apart (w.heap.size + 1) (.row w4.heap.size) := apart_ne (by omega)
      have b42 : Apart (w.heap.size + 2) (.row w4.heap.size) := apart_ne (by omega)
      have b43 : Apart w3.heap.size (.row w4.heap.size) := apart_ne (by omega)
      have b45 : Apart (w4.heap.size + 1) (.row w4.heap.size) := apart_ne (by omega)
      have b46 : Apart (w4.heap.size + 2) (.row w4.heap.size) := apart_ne (by omega)
      have o4 : OwnB w.heap.size (.row w4.heap.size) := own_row (by omega)
      have b50 : Apart w.heap.size (.row (w4.heap.size + 1)) := apart_ne (by omega)
      have b51 : Apart (w.heap.size + 1) (.row (w4.heap.size + 1)) := apart_ne (by omega)
      have b52 : Apart (w.heap.size + 2) (.row (w4.heap.size + 1)) := apart_ne (by omega)
      have b53 : Apart w3.heap.size (.row (w4.heap.size + 1)) := apart_ne (by omega)
      have b54 : Apart w4.heap.size (.row (w4.heap.size + 1)) := apart_ne (by omega)
      have b56 : Apart (w4.heap.size + 2) (.row (w4.heap.size + 1)) := apart_ne (by omega)
      have o5 : OwnB w.heap.size (.row (w4.heap.size + 1)) := own_row (by omega)
      have b60 : Apart w.heap.size (.row (w4.heap.size + 2)) := apart_ne (by omega)
      have b61 : Apart (w.heap.size + 1) (.row (w4.heap.size + 2)) := apart_ne (by omega)
      have b62 : Apart (w.heap.size + 2) (.row (w4.heap.size + 2)) := apart_ne (by omega)
      have b63 : Apart w3.heap.size (.row (w4.heap.size + 2)) := apart_ne (by omega)
      have b64 : Apart w4.heap.size (.row (w4.heap.size + 2)) := apart_ne (by omega)
      have b65 : Apart (w4.heap.size + 1) (.row (w4.heap.size + 2)) := apart_ne (by omega)
      have o6 : OwnB w.heap.size (.row (w4.heap.size + 2)) := own_row (by omega)
      have c01 : Apart (w.heap.size + 1) (.row w.heap.size) := apart_ne (by omega)
      have c02 : Apart (w.heap.size + 2) (.row w.heap.size) := apart_ne (by omega)
      have c03 : Apart w3.heap.size (.row w.heap.size) := apart_ne (by omega)
      have c04 : Apart w4.heap.size (.row w.heap.size) := apart_ne (by omega)
      have c05 : Apart (w4.heap.size + 1) (.row w.heap.size) := apart_ne (by omega)
      have c06 : Apart (w4.heap.size + 2) (.row w.heap.size) := apart_ne (by omega)
      have c23 : Apart w3.heap.size (.row (w.heap.size + 2)) := apart_ne (by omega)
      have c24 : Apart w4.heap.size (.row (w.heap.size + 2)) := apart_ne (by omega)
      have c25 : Apart (w4.heap.size + 1) (.row (w.heap.size + 2)) := apart_ne (by omega)
      have c26 : Apart (w4.heap.size + 2) (.row (w.heap.size + 2)) := apart_ne (by omega)
      have c34 : Apart w4.heap.size (.row w3.heap.size) := apart_ne (by omega)
      have c35 : Apart (w4.heap.size + 1) (.row w3.heap.size) := apart_ne (by omega)
      have c36 : Apart (w4.heap.size + 2) (.row w3.heap.size) := apart_ne (by omega)
      go_wp2_with fail
      refine (HO0.out _ (bel _ _)).mono ?_
      rintro e5 w5 ⟨v5, rfl, hv, hb⟩
      have p5 := prev_call hb
      obtain ⟨X5, k5, rfl⟩ := Kd.R_slice hv
      have HV5 := Aside0.mk hv
      clear hv
      clear hb
      go_wp2_with fail
      refine (HO2.out _ (bel _ _)).mono ?_
      rintro e6 w6 ⟨v6, rfl, hv, hb⟩
      have p6 := prev_call hb
      obtain ⟨X6, k6, rfl⟩ := Kd.R_slice hv
      have HV6 := Aside0.mk hv
      clear hv
      have HX56 := Aside0.mk (rowX (W' := w6) HV5.out)
      clear HV5
      have HV5 := HX56
      clear HX56
      clear hb
      go_wp2_with fail
      refine bodyPost_ret (results_row_tmp rfl _ _ (.int .i64 0) held rfl rfl Tryd.underlying24 rfl (by exact info24)) rfl ?_
      exact ⟨_, rfl, SideIn.ofRow (Row.ofR (rowX HV5.out (r := rowsCells4 inferInstance inferInstance inferInstance))) (Row.ofC (Kd.C_below HC1.out (bel w _)) l2) (Row.ofR (rowX HV6.out (r := rowsCells4 inferInstance inferInstance inferInstance))), bel _ _⟩
    · rw [if_neg (fun h => absurd h.1 (by decide))] at hr
      subst hr
      go_wp2_with fail
      refine (HF1.out _ (bel _ _)).mono ?_
      rintro r3 w3 ⟨rfl, hb⟩
      have p3 := prev_call hb
      have s3 : w.heap.size + 2 < w3.heap.size := held_lt (W := w3) (g := w.heap.size + 2)
      clear hb
      have a30 : Apart w.heap.size (.row w3.heap.size) := apart_ne (by omega)
      have a31 : Apart (w.heap.size + 1) (.row w3.heap.size) := apart_ne (by omega)
      have a32 : Apart (w.heap.size + 2) (.row w3.heap.size) := apart_ne (by omega)
      have o3 : OwnB w.heap.size (.row w3.heap.size) := own_row (by omega)
      go_wp2_with fail
      refine (HF2.out _ (bel _ _)).mono ?_
      rintro r4 w4 ⟨rfl, hb⟩
      have p4 := prev_call hb
      have s4 : w3.heap.size < w4.heap.size := held_lt (W := w4) (g := w3.heap.size)
      clear hb HF1 HF2
      have b40 : Apart w.heap.size (.row w4.heap.size) := apart_ne (by omega)
      have b41 : Apart (w.heap.size + 1) (.row w4.heap.size) := apart_ne (by omega)
      have b42 : Apart (w.heap.size + 2) (.row w4.heap.size) := apart_ne (by omega)
      have b43 : Apart w3.heap.size (.row w4.heap.size) := apart_ne (by omega)
      have b45 : Apart (w4.heap.size + 1) (.row w4.heap.size) := apart_ne (by omega)
      have b46 : Apart (w4.heap.size + 2) (.row w4.heap.size) := apart_ne (by omega)
      have o4 : OwnB w.heap.size (.row w4.heap.size) := own_row (by omega)
      have b50 : Apart w.heap.size (.row (w4.heap.size + 1)) := apart_ne (by omega)
      have b51 : Apart (w.heap.size + 1) (.row (w4.heap.size + 1)) := apart_ne (by omega)
      have b52 : Apart (w.heap.size + 2) (.row (w4.heap.size + 1)) := apart_ne (by omega)
      have b53 : Apart w3.heap.size (.row (w4.heap.size + 1)) := apart_ne (by omega)
      have b54 : Apart w4.heap.size (.row (w4.heap.size + 1)) := apart_ne (by omega)
      have b56 : Apart (w4.heap.size + 2) (.row (w4.heap.size + 1)) := apart_ne (by omega)
      have o5 : OwnB w.heap.size (.row (w4.heap.size + 1)) := own_row (by omega)
      have b60 : Apart w.heap.size (.row (w4.heap.size + 2)) := apart_ne (by omega)
      have b61 : Apart (w.heap.size + 1) (.row (w4.heap.size + 2)) := apart_ne (by omega)
      have b62 : Apart (w.heap.size + 2) (.row (w4.heap.size + 2)) := apart_ne (by omega)
      have b63 : Apart w3.heap.size (.row (w4.heap.size + 2)) := apart_ne (by omega)
      have b64 : Apart w4.heap.size (.row (w4.heap.size + 2)) := apart_ne (by omega)
      have b65 : Apart (w4.heap.size + 1) (.row (w4.heap.size + 2)) := apart_ne (by omega)
      have o6 : OwnB w.heap.size (.row (w4.heap.size + 2)) := own_row (by omega)
      have c01 : Apart (w.heap.size + 1) (.row w.heap.size) := apart_ne (by omega)
      have c02 : Apart (w.heap.size + 2) (.row w.heap.size) := apart_ne (by omega)
      have c03 : Apart w3.heap.size (.row w.heap.size) := apart_ne (by omega)
      have c04 : Apart w4.heap.size (.row w.heap.size) := apart_ne (by omega)
      have c05 : Apart (w4.heap.size + 1) (.row w.heap.size) := apart_ne (by omega)
      have c06 : Apart (w4.heap.size + 2) (.row w.heap.size) := apart_ne (by omega)
      have c23 : Apart w3.heap.size (.row (w.heap.size + 2)) := apart_ne (by omega)
      have c24 : Apart w4.heap.size (.row (w.heap.size + 2)) := apart_ne (by omega)
      have c25 : Apart (w4.heap.size + 1) (.row (w.heap.size + 2)) := apart_ne (by omega)
      have c26 : Apart (w4.heap.size + 2) (.row (w.heap.size + 2)) := apart_ne (by omega)
      have c34 : Apart w4.heap.size (.row w3.heap.size) := apart_ne (by omega)
      have c35 : Apart (w4.heap.size + 1) (.row w3.heap.size) := apart_ne (by omega)
      have c36 : Apart (w4.heap.size + 2) (.row w3.heap.size) := apart_ne (by omega)
      go_wp2_with fail
      refine (HW0.out _ (bel _ _) (y.r)).mono ?_
      rintro e5 w5 ⟨v5, rfl, hv, hb⟩
      have p5 := prev_call hb
      obtain ⟨X5, k5, rfl⟩ := Kd.R_slice hv
      have HV5 := Aside0.mk hv
      clear hv
      clear hb
      go_wp2_with fail
      refine (HW1.out _ (bel _ _) (y.r)).mono ?_
      rintro e6 w6 ⟨v6, rfl, hv, hb⟩
      have p6 := prev_call hb
      obtain ⟨X6, k6, rfl⟩ := Kd.R_slice hv
      have HV6 := Aside0.mk hv
      clear hv
      have HX56 := Aside0.mk (rowX (W' := w6) HV5.out)
      clear HV5
      have HV5 := HX56
      clear HX56
      clear hb
      go_wp2_with fail
      refine bodyPost_ret (results_row_tmp rfl _ _ (.int .i64 0) held rfl rfl Tryd.underlying24 rfl (by exact info24)) rfl ?_
      exact ⟨_, rfl, SideIn.ofRow (Row.ofR (rowX HV5.out (r := rowsCells4 inferInstance inferInstance inferInstance))) (Row.ofR (rowX HV6.out (r := rowsCells4 inferInstance inferInstance inferInstance))) (Row.ofC (Kd.C_below HC2.out (bel w _)) l3), bel _ _⟩
    · rw [if_neg (fun h => absurd h.1 (by decide))] at hr
      subst hr
      go_wp2_with fail
      refine (HF1.out _ (bel _ _)).mono ?_
      rintro r3 w3 ⟨rfl, hb⟩
      have p3 := prev_call hb
      have s3 : w.heap.size + 2 < w3.heap.size := held_lt (W := w3) (g := w.heap.size + 2)
      clear hb
      have a30 : Apart w.heap.size (.row w3.heap.size) := apart_ne (by omega)
      have a31 : Apart (w.heap.size + 1) (.row w3.heap.size) := apart_ne (by omega)
      have a32 : Apart (w.heap.size + 2) (.row w3.heap.size) := apart_ne (by omega)
      have o3 : OwnB w.heap.size (.row w3.heap.size) := own_row (by omega)
      go_wp2_with fail
      refine (HF2.out _ (bel _ _)).mono ?_
      rintro r4 w4 ⟨rfl, hb⟩
      have p4 := prev_call hb
      have s4 : w3.heap.size < w4.heap.size := held_lt (W := w4) (g := w3.heap.size)
      clear hb HF1 HF2
      have b40 : Apart w.heap.size (.row w4.heap.size) := apart_ne (by omega)
      have b41 : Apart (w.heap.size + 1) (.row w4.heap.size) := apart_ne (by omega)
      have b42 : Apart (w.heap.size + 2) (.row w4.heap.size) := apart_ne (by omega)
      have b43 : Apart w3.heap.size (.row w4.heap.size) := apart_ne (by omega)
      have b45 : Apart (w4.heap.size + 1) (.row w4.heap.size) := apart_ne (by omega)
      have b46 : Apart (w4.heap.size + 2) (.row w4.heap.size) := apart_ne (by omega)
      have o4 : OwnB w.heap.size (.row w4.heap.size) := own_row (by omega)
      have b50 : Apart w.heap.size (.row (w4.heap.size + 1)) := apart_ne (by omega)
      have b51 : Apart (w.heap.size + 1) (.row (w4.heap.size + 1)) := apart_ne (by omega)
      have b52 : Apart (w.heap.size + 2) (.row (w4.heap.size + 1)) := apart_ne (by omega)
      have b53 : Apart w3.heap.size (.row (w4.heap.size + 1)) := apart_ne (by omega)
      have b54 : Apart w4.heap.size (.row (w4.heap.size + 1)) := apart_ne (by omega)
      have b56 : Apart (w4.heap.size + 2) (.row (w4.heap.size + 1)) := apart_ne (by omega)
      have o5 : OwnB w.heap.size (.row (w4.heap.size + 1)) := own_row (by omega)
      have b60 : Apart w.heap.size (.row (w4.heap.size + 2)) := apart_ne (by omega)
      have b61 : Apart (w.heap.size + 1) (.row (w4.heap.size + 2)) := apart_ne (by omega)
      have b62 : Apart (w.heap.size + 2) (.row (w4.heap.size + 2)) := apart_ne (by omega)
      have b63 : Apart w3.heap.size (.row (w4.heap.size + 2)) := apart_ne (by omega)
      have b64 : Apart w4.heap.size (.row (w4.heap.size + 2)) := apart_ne (by omega)
      have b65 : Apart (w4.heap.size + 1) (.row (w4.heap.size + 2)) := apart_ne (by omega)
      have o6 : OwnB w.heap.size (.row (w4.heap.size + 2)) := own_row (by omega)
      have c01 : Apart (w.heap.size + 1) (.row w.heap.size) := apart_ne (by omega)
      have c02 : Apart (w.heap.size + 2) (.row w.heap.size) := apart_ne (by omega)
      have c03 : Apart w3.heap.size (.row w.heap.size) := apart_ne (by omega)
      have c04 : Apart w4.heap.size (.row w.heap.size) := apart_ne (by omega)
      have c05 : Apart (w4.heap.size + 1) (.row w.heap.size) := apart_ne (by omega)
      have c06 : Apart (w4.heap.size + 2) (.row w.heap.size) := apart_ne (by omega)
      have c23 : Apart w3.heap.size (.row (w.heap.size + 2)) := apart_ne (by omega)
      have c24 : Apart w4.heap.size (.row (w.heap.size + 2)) := apart_ne (by omega)
      have c25 : Apart (w4.heap.size + 1) (.row (w.heap.size + 2)) := apart_ne (by omega)
      have c26 : Apart (w4.heap.size + 2) (.row (w.heap.size + 2)) := apart_ne (by omega)
      have c34 : Apart w4.heap.size (.row w3.heap.size) := apart_ne (by omega)
      have c35 : Apart (w4.heap.size + 1) (.row w3.heap.size) := apart_ne (by omega)
      have c36 : Apart (w4.heap.size + 2) (.row w3.heap.size) := apart_ne (by omega)
      go_wp2_with fail
      refine (HO0.out _ (bel _ _)).mono ?_
      rintro e5 w5 ⟨v5, rfl, hv, hb⟩
      have p5 := prev_call hb
      obtain ⟨X5, k5, rfl⟩ := Kd.R_slice hv
      have HV5 := Aside0.mk hv
      clear hv
      clear hb
      go_wp2_with fail
      refine (HO1.out _ (bel _ _)).mono ?_
      rintro e6 w6 ⟨v6, rfl, hv, hb⟩
      have p6 := prev_call hb
      obtain ⟨X6, k6, rfl⟩ := Kd.R_slice hv
      have HV6 := Aside0.mk hv
      clear hv
      have HX56 := Aside0.mk (rowX (W' := w6) HV5.out)
      clear HV5
      have HV5 := HX56
      clear HX56
      clear hb
      go_wp2_with fail
      refine bodyPost_ret (results_row_tmp rfl _ _ (.int .i64 0) held rfl rfl Tryd.underlying24 rfl (by exact info24)) rfl ?_
      exact ⟨_, rfl, SideIn.ofRow (Row.ofR (rowX HV5.out (r := rowsCells4 inferInstance inferInstance inferInstance))) (Row.ofR (rowX HV6.out (r := rowsCells4 inferInstance inferInstance inferInstance))) (Row.ofC (Kd.C_below HC2.out (bel w _)) l3), bel _ _⟩
    · rw [if_neg (fun h => absurd h.1 (by decide))] at hr
      subst hr
      go_wp2_with fail
      refine (HF1.out _ (bel _ _)).mono ?_
      rintro r3 w3 ⟨rfl, hb⟩
      have p3 := prev_call hb
      have s3 : w.heap.size + 2 < w3.heap.size := held_lt (W := w3) (g := w.heap.size + 2)
      clear hb
      have a30 : Apart w.heap.size (.row w3.heap.size) := apart_ne (by omega)
      have a31 : Apart (w.heap.size + 1) (.row w3.heap.size) := apart_ne (by omega)
      have a32 : Apart (w.heap.size + 2) (.row w3.heap.size) := apart_ne (by omega)
      have o3 : OwnB w.heap.size (.row w3.heap.size) := own_row (by omega)
      go_wp2_with fail
      refine (HF2.out _ (bel _ _)).mono ?_
      rintro r4 w4 ⟨rfl, hb⟩
      have p4 := prev_call hb
      have s4 : w3.heap.size < w4.heap.size := held_lt (W := w4) (g := w3.heap.size)
      clear hb HF1 HF2
      have b40 : Apart w.heap.size (.row w4.heap.size) := apart_ne (by omega)
      have b41 : Apart (w.heap.size + 1) (.row w4.heap.size) := apart_ne (by omega)
      have b42 : Apart (w.heap.size + 2) (.row w4.heap.size) := apart_ne (by omega)
      have b43 : Apart w3.heap.size (.row w4.heap.size) := apart_ne (by omega)
      have b45 : Apart (w4.heap.size + 1) (.row w4.heap.size) := apart_ne (by omega)
      have b46 : Apart (w4.heap.size + 2) (.row w4.heap.size) := apart_ne (by omega)
      have o4 : OwnB w.heap.size (.row w4.heap.size) := own_row (by omega)
      have b50 : Apart w.heap.size (.row (w4.heap.size + 1)) := apart_ne (by omega)
      have b51 : Apart (w.heap.size + 1) (.row (w4.heap.size + 1)) := apart_ne (by omega)
      have b52 : Apart (w.heap.size + 2) (.row (w4.heap.size + 1)) := apart_ne (by omega)
      have b53 : Apart w3.heap.size (.row (w4.heap.size + 1)) := apart_ne (by omega)
      have b54 : Apart w4.heap.size (.row (w4.heap.size + 1)) := apart_ne (by omega)
      have b56 : Apart (w4.heap.size + 2) (.row (w4.heap.size + 1)) := apart_ne (by omega)
      have o5 : OwnB w.heap.size (.row (w4.heap.size + 1)) := own_row (by omega)
      have b60 : Apart w.heap.size (.row (w4.heap.size + 2)) := apart_ne (by omega)
      have b61 : Apart (w.heap.size + 1) (.row (w4.heap.size + 2)) := apart_ne (by omega)
      have b62 : Apart (w.heap.size + 2) (.row (w4.heap.size + 2)) := apart_ne (by omega)
      have b63 : Apart w3.heap.size (.row (w4.heap.size + 2)) := apart_ne (by omega)
      have b64 : Apart w4.heap.size (.row (w4.heap.size + 2)) := apart_ne (by omega)
      have b65 : Apart (w4.heap.size + 1) (.row (w4.heap.size + 2)) := apart_ne (by omega)
      have o6 : OwnB w.heap.size (.row (w4.heap.size + 2)) := own_row (by omega)
      have c01 : Apart (w.heap.size + 1) (.row w.heap.size) := apart_ne (by omega)
      have c02 : Apart (w.heap.size + 2) (.row w.heap.size) := apart_ne (by omega)
      have c03 : Apart w3.heap.size (.row w.heap.size) := apart_ne (by omega)
      have c04 : Apart w4.heap.size (.row w.heap.size) := apart_ne (by omega)
      have c05 : Apart (w4.heap.size + 1) (.row w.heap.size) := apart_ne (by omega)
      have c06 : Apart (w4.heap.size + 2) (.row w.heap.size) := apart_ne (by omega)
      have c23 : Apart w3.heap.size (.row (w.heap.size + 2)) := apart_ne (by omega)
      have c24 : Apart w4.heap.size (.row (w.heap.size + 2)) := apart_ne (by omega)
      have c25 : Apart (w4.heap.size + 1) (.row (w.heap.size + 2)) := apart_ne (by omega)
      have c26 : Apart (w4.heap.size + 2) (.row (w.heap.size + 2)) := apart_ne (by omega)
      have c34 : Apart w4.heap.size (.row w3.heap.size) := apart_ne (by omega)
      have c35 : Apart (w4.heap.size + 1) (.row w3.heap.size) := apart_ne (by omega)
      have c36 : Apart (w4.heap.size + 2) (.row w3.heap.size) := apart_ne (by omega)
      go_wp2_with fail
      refine (HW0.out _ (bel _ _) (y.r)).mono ?_
      rintro e5 w5 ⟨v5, rfl, hv, hb⟩
      have p5 := prev_call hb
      obtain ⟨X5, k5, rfl⟩ := Kd.R_slice hv
      have HV5 := Aside0.mk hv
      clear hv
      clear hb
      go_wp2_with fail
      refine (HW1.out _ (bel _ _) ({ y.l with f0 := y.r.f0 })).mono ?_
      rintro e6 w6 ⟨v6, rfl, hv, hb⟩
      have p6 := prev_call hb
      obtain ⟨X6, k6, rfl⟩ := Kd.R_slice hv
      have HV6 := Aside0.mk hv
      clear hv
      have HX56 := Aside0.mk (rowX (W' := w6) HV5.out)
      clear HV5
      have HV5 := HX56
      clear HX56
      clear hb
      go_wp2_with fail
      refine bodyPost_ret (results_row_tmp rfl _ _ (.int .i64 0) held rfl rfl Tryd.underlying24 rfl (by exact info24)) rfl ?_
      exact ⟨_, rfl, SideIn.ofRow (Row.ofR (rowX HV5.out (r := rowsCells4 inferInstance inferInstance inferInstance))) (Row.ofR (rowX HV6.out (r := rowsCells4 inferInstance inferInstance inferInstance))) (Row.ofC (Kd.C_below HC2.out (bel w _)) l3), bel _ _⟩
    · rw [if_neg (fun h => absurd h.1 (by decide))] at hr
      subst hr
      go_wp2_with fail
      refine (HF1.out _ (bel _ _)).mono ?_
      rintro r3 w3 ⟨rfl, hb⟩
      have p3 := prev_call hb
      have s3 : w.heap.size + 2 < w3.heap.size := held_lt (W := w3) (g := w.heap.size + 2)
      clear hb
      have a30 : Apart w.heap.size (.row w3.heap.size) := apart_ne (by omega)
      have a31 : Apart (w.heap.size + 1) (.row w3.heap.size) := apart_ne (by omega)
      have a32 : Apart (w.heap.size + 2) (.row w3.heap.size) := apart_ne (by omega)
      have o3 : OwnB w.heap.size (.row w3.heap.size) := own_row (by omega)
      go_wp2_with fail
      refine (HF2.out _ (bel _ _)).mono ?_
      rintro r4 w4 ⟨rfl, hb⟩
      have p4 := prev_call hb
      have s4 : w3.heap.size < w4.heap.size := held_lt (W := w4) (g := w3.heap.size)
      clear hb HF1 HF2
      have b40 : Apart w.heap.size (.row w4.heap.size) := apart_ne (by omega)
      have b41 : Apart (w.heap.size + 1) (.row w4.heap.size) := apart_ne (by omega)
      have b42 : Apart (w.heap.size + 2) (.row w4.heap.size) := apart_ne (by omega)
      have b43 : Apart w3.heap.size (.row w4.heap.size) := apart_ne (by omega)
      have b45 : Apart (w4.heap.size + 1) (.row w4.heap.size) := apart_ne (by omega)
      have b46 : Apart (w4.heap.size + 2) (.row w4.heap.size) := apart_ne (by omega)
      have o4 : OwnB w.heap.size (.row w4.heap.size) := own_row (by omega)
      have b50 : Apart w.heap.size (.row (w4.heap.size + 1)) := apart_ne (by omega)
      have b51 : Apart (w.heap.size + 1) (.row (w4.heap.size + 1)) := apart_ne (by omega)
      have b52 : Apart (w.heap.size + 2) (.row (w4.heap.size + 1)) := apart_ne (by omega)
      have b53 : Apart w3.heap.size (.row (w4.heap.size + 1)) := apart_ne (by omega)
      have b54 : Apart w4.heap.size (.row (w4.heap.size + 1)) := apart_ne (by omega)
      have b56 : Apart (w4.heap.size + 2) (.row (w4.heap.size + 1)) := apart_ne (by omega)
      have o5 : OwnB w.heap.size (.row (w4.heap.size + 1)) := own_row (by omega)
      have b60 : Apart w.heap.size (.row (w4.heap.size + 2)) := apart_ne (by omega)
      have b61 : Apart (w.heap.size + 1) (.row (w4.heap.size + 2)) := apart_ne (by omega)
      have b62 : Apart (w.heap.size + 2) (.row (w4.heap.size + 2)) := apart_ne (by omega)
      have b63 : Apart w3.heap.size (.row (w4.heap.size + 2)) := apart_ne (by omega)
      have b64 : Apart w4.heap.size (.row (w4.heap.size + 2)) := apart_ne (by omega)
      have b65 : Apart (w4.heap.size + 1) (.row (w4.heap.size + 2)) := apart_ne (by omega)
      have o6 : OwnB w.heap.size (.row (w4.heap.size + 2)) := own_row (by omega)
      have c01 : Apart (w.heap.size + 1) (.row w.heap.size) := apart_ne (by omega)
      have c02 : Apart (w.heap.size + 2) (.row w.heap.size) := apart_ne (by omega)
      have c03 : Apart w3.heap.size (.row w.heap.size) := apart_ne (by omega)
      have c04 : Apart w4.heap.size (.row w.heap.size) := apart_ne (by omega)
      have c05 : Apart (w4.heap.size + 1) (.row w.heap.size) := apart_ne (by omega)
      have c06 : Apart (w4.heap.size + 2) (.row w.heap.size) := apart_ne (by omega)
      have c23 : Apart w3.heap.size (.row (w.heap.size + 2)) := apart_ne (by omega)
      have c24 : Apart w4.heap.size (.row (w.heap.size + 2)) := apart_ne (by omega)
      have c25 : Apart (w4.heap.size + 1) (.row (w.heap.size + 2)) := apart_ne (by omega)
      have c26 : Apart (w4.heap.size + 2) (.row (w.heap.size + 2)) := apart_ne (by omega)
      have c34 : Apart w4.heap.size (.row w3.heap.size) := apart_ne (by omega)
      have c35 : Apart (w4.heap.size + 1) (.row w3.heap.size) := apart_ne (by omega)
      have c36 : Apart (w4.heap.size + 2) (.row w3.heap.size) := apart_ne (by omega)
      go_wp2_with fail
      refine (HO0.out _ (bel _ _)).mono ?_
      rintro e5 w5 ⟨v5, rfl, hv, hb⟩
      have p5 := prev_call hb
      obtain ⟨X5, k5, rfl⟩ := Kd.R_slice hv
      have HV5 := Aside0.mk hv
      clear hv
      clear hb
      go_wp2_with fail
      refine bodyPost_ret (results_row_tmp rfl _ _ (.int .i64 0) held rfl rfl Tryd.underlying24 rfl (by exact info24)) rfl ?_
      exact ⟨_, rfl, SideIn.ofRow (Row.ofR (rowX HV5.out (r := rowsCells4 inferInstance inferInstance inferInstance))) (Row.ofC (Kd.C_below HC1.out (bel w _)) l2) (Row.ofC (Kd.C_below HC2.out (bel w _)) l3), bel _ _⟩
    · rw [if_neg (fun h => absurd h.1 (by decide))] at hr
      subst hr
      go_wp2_with fail
      refine (HF1.out _ (bel _ _)).mono ?_
      rintro r3 w3 ⟨rfl, hb⟩
      have p3 := prev_call hb
      have s3 : w.heap.size + 2 < w3.heap.size := held_lt (W := w3) (g := w.heap.size + 2)
      clear hb
      have a30 : Apart w.heap.size (.row w3.heap.size) := apart_ne (by omega)
      have a31 : Apart (w.heap.size + 1) (.row w3.heap.size) := apart_ne (by omega)
      have a32 : Apart (w.heap.size + 2) (.row w3.heap.size) := apart_ne (by omega)
      have o3 : OwnB w.heap.size (.row w3.heap.size) := own_row (by omega)
      go_wp2_with fail
      refine (HF2.out _ (bel _ _)).mono ?_
      rintro r4 w4 ⟨rfl, hb⟩
      have p4 := prev_call hb
      have s4 : w3.heap.size < w4.heap.size := held_lt (W := w4) (g := w3.heap.size)
      clear hb HF1 HF2
      have b40 : Apart w.heap.size (.row w4.heap.size) := apart_ne (by omega)
      have b41 : Apart (w.heap.size + 1) (.row w4.heap.size) := apart_ne (by omega)
      have b42 : Apart (w.heap.size + 2) (.row w4.heap.size) := apart_ne (by omega)
      have b43 : Apart w3.heap.size (.row w4.heap.size) := apart_ne (by omega)
      have b45 : Apart (w4.heap.size + 1) (.row w4.heap.size) := apart_ne (by omega)
      have b46 : Apart (w4.heap.size + 2) (.row w4.heap.size) := apart_ne (by omega)
      have o4 : OwnB w.heap.size (.row w4.heap.size) := own_row (by omega)
      have b50 : Apart w.heap.size (.row (w4.heap.size + 1)) := apart_ne (by omega)
      have b51 : Apart (w.heap.size + 1) (.row (w4.heap.size + 1)) := apart_ne (by omega)
      have b52 : Apart (w.heap.size + 2) (.row (w4.heap.size + 1)) := apart_ne (by omega)
      have b53 : Apart w3.heap.size (.row (w4.heap.size + 1)) := apart_ne (by omega)
      have b54 : Apart w4.heap.size (.row (w4.heap.size + 1)) := apart_ne (by omega)
      have b56 : Apart (w4.heap.size + 2) (.row (w4.heap.size + 1)) := apart_ne (by omega)
      have o5 : OwnB w.heap.size (.row (w4.heap.size + 1)) := own_row (by omega)
      have b60 : Apart w.heap.size (.row (w4.heap.size + 2)) := apart_ne (by omega)
      have b61 : Apart (w.heap.size + 1) (.row (w4.heap.size + 2)) := apart_ne (by omega)
      have b62 : Apart (w.heap.size + 2) (.row (w4.heap.size + 2)) := apart_ne (by omega)
      have b63 : Apart w3.heap.size (.row (w4.heap.size + 2)) := apart_ne (by omega)
      have b64 : Apart w4.heap.size (.row (w4.heap.size + 2)) := apart_ne (by omega)
      have b65 : Apart (w4.heap.size + 1) (.row (w4.heap.size + 2)) := apart_ne (by omega)
      have o6 : OwnB w.heap.size (.row (w4.heap.size + 2)) := own_row (by omega)
      have c01 : Apart (w.heap.size + 1) (.row w.heap.size) := apart_ne (by omega)
      have c02 : Apart (w.heap.size + 2) (.row w.heap.size) := apart_ne (by omega)
      have c03 : Apart w3.heap.size (.row w.heap.size) := apart_ne (by omega)
      have c04 : Apart w4.heap.size (.row w.heap.size) := apart_ne (by omega)
      have c05 : Apart (w4.heap.size + 1) (.row w.heap.size) := apart_ne (by omega)
      have c06 : Apart (w4.heap.size + 2) (.row w.heap.size) := apart_ne (by omega)
      have c23 : Apart w3.heap.size (.row (w.heap.size + 2)) := apart_ne (by omega)
      have c24 : Apart w4.heap.size (.row (w.heap.size + 2)) := apart_ne (by omega)
      have c25 : Apart (w4.heap.size + 1) (.row (w.heap.size + 2)) := apart_ne (by omega)
      have c26 : Apart (w4.heap.size + 2) (.row (w.heap.size + 2)) := apart_ne (by omega)
      have c34 : Apart w4.heap.size (.row w3.heap.size) := apart_ne (by omega)
      have c35 : Apart (w4.heap.size + 1) (.row w3.heap.size) := apart_ne (by omega)
      have c36 : Apart (w4.heap.size + 2) (.row w3.heap.size) := apart_ne (by omega)
      go_wp2_with fail
      refine (HW0.out _ (bel _ _) (y.r)).mono ?_
      rintro e5 w5 ⟨v5, rfl, hv, hb⟩
      have p5 := prev_call hb
      obtain ⟨X5, k5, rfl⟩ := Kd.R_slice hv
      have HV5 := Aside0.mk hv
      clear hv
      clear hb
      go_wp2_with fail
      refine (HT.out _ (bel _ _) y.l).mono ?_
      rintro e6 w6 ⟨v6, rfl, hv, hb⟩
      have p6 := prev_call hb
      obtain ⟨X6, k6, rfl⟩ := Kd.R_slice hv
      have HV6 := Aside0.mk hv
      clear hv
      have HX56 := Aside0.mk (rowX (W' := w6) HV5.out)
      clear HV5
      have HV5 := HX56
      clear HX56
      clear hb
      go_wp2_with fail
      refine (HTT.out _ _ _ y.l y.r (Kd.R_reads' (rowX HV6.out)).2.2).mono ?_
      rintro e7 w7 ⟨v7, rfl, hv, hb⟩
      have p7 := prev_call hb
      obtain ⟨X7, k7, rfl⟩ := Kd.R_slice hv
      have HV7 := Aside0.mk hv
      clear hv
      have HX57 := Aside0.mk (rowX (W' := w7) HV5.out)
      have HX67 := Aside0.mk (rowX (W' := w7) HV6.out)
      clear HV5
      have HV5 := HX57
      clear HX57
      clear HV6
      have HV6 := HX67
      clear HX67
      clear hb
      go_wp2_with fail
      refine bodyPost_ret (results_row_tmp rfl _ _ (.int .i64 0) held rfl rfl Tryd.underlying24 rfl (by exact info24)) rfl ?_
      exact ⟨_, rfl, SideIn.ofRow (Row.ofR (rowX HV5.out (r := rowsCells4 inferInstance inferInstance inferInstance))) (Row.ofR (rowX HV7.out (r := rowsCells4 inferInstance inferInstance inferInstance))) (Row.ofC (Kd.C_below HC2.out (bel w _)) l3), bel _ _⟩
end Go.Proofs.YtjllbkeobibnkaaDoor.Q

namespace Go.Proofs.YtjllbkeobibnkaaDoor.Q
open Go Go.Proofs Go.RowKit Go.Proofs.YtjllbkeobibnkaaDoorK Go.Proofs.YtjllbkeobibnkaaDoorW.PrintWords Go.Proofs.YtjllbkeobibnkaaDoorW.PrintLast Go.Proofs.YtjllbkeobibnkaaDoorW.PrintMore
set_option linter.unusedSimpArgs false
set_option linter.unusedVariables false
/-! ### The document's Same -/
def eqH (x y : S51) : Bool := x.f0 == y.f0 && (x.f1 == y.f1 && x.f2.l == y.f2.l)
def eqK (x y : S58) : Bool := x.f0.toList == y.f0.toList && eqH x.f1 y.f1
theorem A51_cut (x : S51) : ((A51 x).extract 2 34).toList = sumL x.f2 := by
  have h := sumL_len x.f2
  simp [A51, L51, List.extract]
  rw [List.take_of_length_le (by omega)]
theorem A58_cut (x : S58) : (A58 x).extract 1 35 = A51 x.f1 := by
  have h := L51_len x.f1
  apply Array.toList_inj.1
  simp [A58, L58, A51, List.extract]
  rw [List.take_of_length_le (by omega)]
theorem part49 (w : World) (xs : Array Value) : (part 49 xs 2).run Tryd.prog w = .ok (.agg (xs.extract 2 34)) w := by
  obtain ⟨i, hi, hs⟩ := Option.map_eq_some_iff.1 info49s
  unfold part isAgg
  simp [Sem.run_bind, run_underlying Tryd.underlying49, sizeOf, typeInfo, hi, hs]
theorem part51 (w : World) (xs : Array Value) : (part 51 xs 1).run Tryd.prog w = .ok (.agg (xs.extract 1 35)) w := by
  obtain ⟨i, hi, hs⟩ := Option.map_eq_some_iff.1 info51s
  unfold part isAgg
  simp [Sem.run_bind, run_underlying Tryd.underlying51, sizeOf, typeInfo, hi, hs]
attribute [local go_sem] A51_size A51_0 A51_1 A51_g0 A51_g1 A58_size A58_0 A58_1 A58_2 A58_g0 A58_g1 A58_g2 cell_held frozen_held
theorem eq51 (d : Nat) (w : World) (x y : S51) : (Op.equalIn (d + 3) 51 (.agg (A51 x)) (.agg (A51 y))).run Tryd.prog w = .ok (eqH x y) w := by
  obtain ⟨i0, hi⟩ := info5s
  refine eqA_of Tryd.underlying51 (by kernel_rfl) ?_
  refine eqf_cons (by rfl) (by go_simp; rfl) (by go_simp; rfl) (by go_simp) ?_
  refine eqf_cons (by rfl) (by go_simp; rfl) (by go_simp; rfl) (by go_simp) ?_
  exact eqf_last (by rfl) (part49 _ _) (part49 _ _) (eq_sum d Tryd.underlying49 Tryd.underlying5 (by kernel_rfl) hi _ _ x.f2 y.f2 (A51_cut x) (A51_cut y))
theorem eq58 (d : Nat) (w : World) (x y : S58) : (Op.equalIn (d + 4) 58 (.agg (A58 x)) (.agg (A58 y))).run Tryd.prog w = .ok (eqK x y) w := by
  refine eqA_of Tryd.underlying58 (by kernel_rfl) ?_
  refine eqf_cons (by rfl) (by go_simp; rfl) (by go_simp; rfl) (by go_simp) ?_
  exact eqf_last (by rfl) (part51 _ _) (part51 _ _) (by rw [A58_cut, A58_cut]; exact eq51 d w x.f1 y.f1)
theorem eqH_iff (x y : S51) : eqH x y = true ↔ x = y := by
  obtain ⟨x0, x1, x2⟩ := x
  obtain ⟨y0, y1, y2⟩ := y
  simp only [eqH, Bool.and_eq_true, beq_iff_eq, S51.mk.injEq]
  constructor
  · rintro ⟨h0, h1, h2⟩
    exact ⟨h0, h1, Sum.eq h2⟩
  · rintro ⟨rfl, rfl, rfl⟩
    exact ⟨rfl, rfl, rfl⟩
theorem eqK_iff (x y : S58) : eqK x y = true ↔ x = y := by
  obtain ⟨x0, x1⟩ := x
  obtain ⟨y0, y1⟩ := y
  simp only [eqK, Bool.and_eq_true, beq_iff_eq, S58.mk.injEq, eqH_iff]
  rw [tlB]
/-- A change lies at ad. -/
class Loads (W : World) (ad : Addr) (x : outParam S58) : Prop where
  out : At W ad (L58 x)
instance (W : World) (ad : Addr) (x : S58) [h : Loads W ad x] : Loads W.drew ad x := ⟨h.out⟩
instance (W : World) (n : Nat) (ad : Addr) (x : S58) [h : Loads W ad x] : Loads (W.drewN n) ad x := ⟨At_below h.out (pw_below_drewN (Below.refl _ _) n)⟩
theorem load58q {W : World} {ad : Addr} {x : S58} [h : Loads W ad x] : (lvx 58 ad).run Tryd.prog W = .ok (.agg (A58 x)) W :=
  run_loadVar_at h.out Tryd.underlying58 rfl (by rw [L58_len]; exact info58s)
attribute [local go_sem ↓] load58q
attribute [local go_sem high] eq58
def sameK : List S58 → List S58 → Bool
  | [], [] => true
  | x :: l, y :: m => eqK x y && sameK l m
  | _, _ => false
theorem sameK_iff (l : List S58) : ∀ m, sameK l m = true ↔ l = m := by
  induction l with
  | nil => intro m; cases m <;> simp [sameK]
  | cons x l ih => intro m; cases m <;> simp [sameK, eqK_iff, ih]
theorem sameK_len (l : List S58) : ∀ m, l.length ≠ m.length → sameK l m = false := by
  intro m h
  rw [Bool.eq_false_iff]
  intro e
  rw [sameK_iff] at e
  exact h (by rw [e])
set_option maxRecDepth 100000 in
set_option maxHeartbeats 2000000 in
theorem rsame_any (w : World) (A B : Option Addr) (c d : Nat) (l m : List S58) (hA : k58.C w A l.length l) (hB : k58.C w B m.length m) (hl : l.length ≤ 1048576) (hm : m.length ≤ 1048576) :
    Calls Tryd.prog 41 #[.slice A l.length c, .slice B m.length d] w fun e w' => e = .returned (.bool (sameK l m)) ∧ Below w.heap.size w w' := by
  have HA := Aside0.mk hA
  have HB := Aside0.mk hB
  clear hA hB
  by_cases hlm : l.length = m.length
  · have hlb : ((l.length : Int) == (m.length : Int)) = true := beq_iff_eq.mpr (by omega)
    have HS := Aside0.mk (Below.refl w.heap.size w)
    have HLM := Aside0.mk hlm
    rw [← hlm]
    clear hlm hm hlb
    go_enter Tryd.func41, Tryd.ntmps41
    go_wp2_with fail
    go_loopw [5] (fun i wr => ∃ j : Nat, j ≤ l.length ∧ i = .int .i64 (j : Int) ∧ Aside0 (sameK (l.drop j) (m.drop j) = sameK l m) ∧ Aside0 (Below w.heap.size w wr)) (fun i _ => l.length - (intOf i).toNat)
    case atStart => exact ⟨0, Nat.zero_le _, rfl, ⟨rfl⟩, HS⟩
    case round =>
      obtain ⟨j, hj, rfl, HI, HBr⟩ := hrel
      have pr := prev_above HBr.out
      by_cases hlt : j < l.length
      · have hlt2 : j < m.length := by have := HLM.out; omega
        obtain ⟨ad, e, x0⟩ := C58_at HA.out j hlt
        subst e
        obtain ⟨bd, e, y0⟩ := C58_at HB.out j hlt2
        subst e
        have hI := HI.out
        rw [List.drop_eq_getElem_cons hlt, List.drop_eq_getElem_cons hlt2] at hI
        generalize l[j] = x at x0 hI
        generalize m[j] = y at y0 hI
        have X : Loads wr (ad.add (j * 35)) x := ⟨At_below x0 HBr.out⟩
        have Y : Loads wr (bd.add (j * 35)) y := ⟨At_below y0 HBr.out⟩
        clear x0 y0 hlt2
        simp only [sameK] at hI
        cases hq : eqK x y
        · rw [hq, Bool.false_and] at hI
          have HI' := Aside0.mk hI
          clear hI HI
          go_wp2_with fail
          refine wp_region_quiet_lit (by kernel_rfl) (by kernel_rfl) ?_
          quiet_step (fail)
          quiet_step (fail)
          quiet_step (fail)
          refine wpQuiet_step (fun K hK => ?_)
          refine quiet_load (ad := ad.add (j * 35)) (by rfl) 58 (.tmp 19) rfl (A58 x) rfl (fun w h => by obtain ⟨n, rfl⟩ := h; exact Loads.out) (by rfl) Tryd.underlying58 rfl (by rw [L58_len]; exact info58s) ?_
          refine hK _ ?_
          clear hK K
          quiet_step (fail)
          quiet_step (fail)
          quiet_step (fail)
          refine wpQuiet_step (fun K hK => ?_)
          refine quiet_load (ad := bd.add (j * 35)) (by rfl) 58 (.tmp 23) rfl (A58 y) rfl (fun w h => by obtain ⟨n, rfl⟩ := h; exact Loads.out) (by rfl) Tryd.underlying58 rfl (by rw [L58_len]; exact info58s) ?_
          refine hK _ ?_
          clear hK K
          quiet_step (fail)
          refine wpQuiet_nil ?_
          rintro _ ⟨nq, rfl⟩
          go_wp2_with fail
          go_ret
          exact ⟨by rw [← HI'.out]; rfl, bel _ _⟩
        · rw [hq, Bool.true_and] at hI
          have HI' := Aside0.mk hI
          clear hI HI
          go_wp2_with fail
          refine wp_region_quiet_lit (by kernel_rfl) (by kernel_rfl) ?_
          quiet_step (fail)
          quiet_step (fail)
          quiet_step (fail)
          refine wpQuiet_step (fun K hK => ?_)
          refine quiet_load (ad := ad.add (j * 35)) (by rfl) 58 (.tmp 19) rfl (A58 x) rfl (fun w h => by obtain ⟨n, rfl⟩ := h; exact Loads.out) (by rfl) Tryd.underlying58 rfl (by rw [L58_len]; exact info58s) ?_
          refine hK _ ?_
          clear hK K
          quiet_step (fail)
          quiet_step (fail)
          quiet_step (fail)
          refine wpQuiet_step (fun K hK => ?_)
          refine quiet_load (ad := bd.add (j * 35)) (by rfl) 58 (.tmp 23) rfl (A58 y) rfl (fun w h => by obtain ⟨n, rfl⟩ := h; exact Loads.out) (by rfl) Tryd.underlying58 rfl (by rw [L58_len]; exact info58s) ?_
          refine hK _ ?_
          clear hK K
          quiet_step (fail)
          refine wpQuiet_nil ?_
          rintro _ ⟨nq, rfl⟩
          go_wp2_with fail
          go_roundw
          case rel => exact ⟨j + 1, by omega, by go_num, HI', ⟨bel _ _⟩⟩
          case measure => simp [intOf]; omega
      · have hI := HI.out
        rw [List.drop_of_length_le (by omega), List.drop_of_length_le (by have := HLM.out; omega)] at hI
        have HI' := Aside0.mk hI
        clear hI HI
        go_wp2_with fail
        go_ret
        exact ⟨by rw [← HI'.out]; rfl, bel _ _⟩
  · rw [sameK_len l m hlm]
    have hlb : ((l.length : Int) == (m.length : Int)) = false := beq_eq_false_iff_ne.mpr (by omega)
    clear hlm
    go_enter Tryd.func41, Tryd.ntmps41
    go_wp2_with fail
    go_ret
    exact ⟨rfl, bel _ _⟩
end Go.Proofs.YtjllbkeobibnkaaDoor.Q

namespace Go.Proofs.YtjllbkeobibnkaaDoor.Q
open Go Go.Proofs Go.Shelf Go.RowKit Go.Lib Go.Sort Go.Proofs.YtjllbkeobibnkaaDoorP Go.Proofs.YtjllbkeobibnkaaDoorK Go.Proofs.YtjllbkeobibnkaaDoorW.PrintWords Go.Proofs.YtjllbkeobibnkaaDoorW.PrintLast Go.Proofs.YtjllbkeobibnkaaDoorW.PrintMore
set_option linter.unusedSimpArgs false
set_option linter.unusedVariables false
/-! ### The document's Same of sides -/
def sameS (s t : S24) : Bool := sameK s.f0 t.f0 && (sameK s.f1 t.f1 && sameK s.f2 t.f2)
theorem sameS_iff (s t : S24) : sameS s t = true ↔ s = t := by
  obtain ⟨a, b, c⟩ := s
  obtain ⟨d, e, f⟩ := t
  simp only [sameS, Bool.and_eq_true, sameK_iff, S24.mk.injEq]
attribute [local go_sem] cell_held frozen_held
attribute [local go_sem ↓ high] lvx_of
attribute [local go_sem] lv_sc lv24 lv33
set_option maxRecDepth 100000 in
set_option maxHeartbeats 4000000 in
theorem rsameS_any (w : World) (s t : S24) (v u : Array Value) (hs : SideIn w s v) (ht : SideIn w t u) (ho : shortS s = true) (hp : shortS t = true) :
    Calls Tryd.prog 16 #[.agg v, .agg u] w fun e w' => e = .returned (.bool (sameS s t)) ∧ Below w.heap.size w w' := by
  obtain ⟨A, c, B, d, C, e, rfl, l1, l2, l3, h1, h2, h3⟩ := hs.out
  obtain ⟨A', c', B', d', C', e', rfl, l1', l2', l3', h1', h2', h3'⟩ := ht.out
  obtain ⟨m1, m2, m3⟩ := shortS_open ho
  obtain ⟨m1', m2', m3'⟩ := shortS_open hp
  have H0 := Aside0.mk (fun W (hb : Below w.heap.size w W) => rsame_any W A A' c c' s.f0 t.f0 (Kd.C_below h1 hb) (Kd.C_below h1' hb) m1 m1')
  have H1 := Aside0.mk (fun W (hb : Below w.heap.size w W) => rsame_any W B B' d d' s.f1 t.f1 (Kd.C_below h2 hb) (Kd.C_below h2' hb) m2 m2')
  have H2 := Aside0.mk (fun W (hb : Below w.heap.size w W) => rsame_any W C C' e e' s.f2 t.f2 (Kd.C_below h3 hb) (Kd.C_below h3' hb) m3 m3')
  unfold sameS
  clear hs ht ho hp l1 l2 l3 h1 h2 h3 l1' l2' l3' h1' h2' h3' m1 m2 m3 m1' m2' m3'
  generalize sameK s.f0 t.f0 = b0 at *
  generalize sameK s.f1 t.f1 = b1 at *
  generalize sameK s.f2 t.f2 = b2 at *
  generalize s.f0.length = n0 at *
  generalize s.f1.length = n1 at *
  generalize s.f2.length = n2 at *
  generalize t.f0.length = n3 at *
  generalize t.f1.length = n4 at *
  generalize t.f2.length = n5 at *
  cases b0 <;> cases b1 <;> cases b2
  all_goals
    go_enter Tryd.func16, Tryd.ntmps16
    go_wp2_with fail
    refine (H0.out _ (bel _ _)).mono ?_
    rintro r1 w1 ⟨rfl, hb⟩
    have p1 := prev_call hb
    clear hb
    go_wp2_with fail
    all_goals first
      | (go_ret
         exact ⟨rfl, bel _ _⟩)
      | (refine (H1.out _ (bel _ _)).mono ?_
         rintro r2 w2 ⟨rfl, hb⟩
         have p2 := prev_call hb
         clear hb
         go_wp2_with fail
         all_goals first
           | (go_ret
              exact ⟨rfl, bel _ _⟩)
           | (refine (H2.out _ (bel _ _)).mono ?_
              rintro r3 w3 ⟨rfl, hb⟩
              have p3 := prev_call hb
              clear hb
              go_wp2_with fail
              go_ret
              exact ⟨rfl, bel _ _⟩))
end Go.Proofs.YtjllbkeobibnkaaDoor.Q

namespace Go.Proofs.YtjllbkeobibnkaaDoor.Q
open Go Go.Proofs Go.Shelf Go.RowKit Go.Lib Go.Sort Go.Proofs.YtjllbkeobibnkaaDoorP Go.Proofs.YtjllbkeobibnkaaDoorK Go.Proofs.YtjllbkeobibnkaaDoorW.PrintWords Go.Proofs.YtjllbkeobibnkaaDoorW.PrintLast Go.Proofs.YtjllbkeobibnkaaDoorW.PrintMore
set_option linter.unusedSimpArgs false
set_option linter.unusedVariables false
/-! ### merge.free -/
def freeN (cp : Nat → ByteArray × Int) (tk : ByteArray → Bool) : Nat → Nat → ByteArray × Bool
  | 0, _ => (⟨#[]⟩, false)
  | d + 1, n => if (cp n).2 = 0 ∧ tk (cp n).1 = false then ((cp n).1, true) else freeN cp tk d (n + 1)
/-- What is asked of the predicate. -/
def PredF (g : Nat) (bs : Array Value) (tk : ByteArray → Bool) (w : World) : Prop := ∀ W q, Below w.heap.size w W → Calls Tryd.prog g (#[.string q] ++ bs) W fun e w' => e = .returned (.bool (tk q)) ∧ Below W.heap.size W w'
set_option maxRecDepth 100000 in
set_option maxHeartbeats 2000000 in
theorem free_any (w : World) (p : ByteArray) (g : Nat) (bs : Array Value) (eg : ∀ args w, (callFunc g args).run Tryd.prog w = .ok (.enter g args) w) (cp : Nat → ByteArray × Int) (tk : ByteArray → Bool) (hp : PredF g bs tk w)
    (hcp : ∀ W (n : Nat), 1 ≤ n → n ≤ 999 → Calls Tryd.prog 56 #[.string p, .int .i64 (n : Int)] W fun e w' => e = .returned (.tuple #[.string (cp n).1, .int .i64 (cp n).2]) ∧ Below W.heap.size W w') :
    Calls Tryd.prog 29 #[.string p, .func (.func g) #[] bs] w fun e w' => e = .returned (.tuple #[.string (freeN cp tk 999 1).1, .bool (freeN cp tk 999 1).2]) ∧ Below w.heap.size w w' := by
  have HP := Aside0.mk hp
  have HC := Aside0.mk hcp
  obtain ⟨R, hR⟩ : ∃ R, freeN cp tk 999 1 = R := ⟨_, rfl⟩
  rw [hR]
  clear hp hcp
  go_enter Tryd.func29, Tryd.ntmps29
  go_wp2_with fail
  go_loopw [9] (fun i wr => ∃ j : Nat, j ≤ 999 ∧ i = .int .i64 (j : Int) ∧ Aside0 (freeN cp tk (999 - j) (j + 1) = R) ∧ Aside0 (Below w.heap.size w wr)) (fun i _ => 999 - (intOf i).toNat)
  case atStart => exact ⟨0, Nat.zero_le _, rfl, ⟨hR⟩, ⟨Below.refl _ _⟩⟩
  case round =>
    obtain ⟨j, hj, rfl, HI, HB⟩ := hrel
    have bw : Bel w.heap.size w wr := ⟨fun _ => HB.out⟩
    clear hR
    by_cases hlt : j < 999
    · have hI := HI.out
      obtain ⟨d, hd⟩ : ∃ d, 999 - j = d + 1 := ⟨998 - j, by omega⟩
      rw [hd] at hI
      simp only [freeN] at hI
      have hc := fun W => HC.out W (j + 1) (by omega) (by omega)
      generalize cp (j + 1) = q at hc hI
      obtain ⟨q, e⟩ := q
      dsimp only at hc hI
      have hd2 : d = 999 - (j + 1) := by omega
      rw [hd2] at hI
      have HC2 := Aside0.mk hc
      have HII := Aside0.mk hI
      have hpq := fun W (hb : Below w.heap.size w W) => HP.out W q hb
      generalize tk q = b at hpq HII
      have HPQ := Aside0.mk hpq
      clear hc hI hd hd2 HI hpq
      have hw1 : ((j + 1 : Nat) : Int) = (j : Int) + 1 := by omega
      rw [hw1] at HC2
      clear hw1
      by_cases h0 : e = 0
      · subst h0
        go_wp2_with fail
        refine (HC2.out _).mono ?_
        rintro r1 w1 ⟨rfl, hb⟩
        have p1 := prev_call hb
        clear hb
        go_wp2_with fail
        refine (HPQ.out _ (bel _ _)).mono ?_
        rintro r2 w2 ⟨rfl, hb⟩
        have p2 := prev_call hb
        clear hb
        cases b with
        | false =>
          have hI := HII.out
          simp only [true_and, if_true] at hI
          have HI := Aside0.mk hI
          clear hI
          go_wp2_with fail
          go_ret2
          exact ⟨by rw [← HI.out]; rfl, bel _ _⟩
        | true =>
          have hI := HII.out
          rw [if_neg (fun h => absurd h.2 (by decide))] at hI
          have HI := Aside0.mk hI
          clear hI
          go_wp2_with fail
          go_roundw
          case rel => exact ⟨j + 1, by omega, by go_num, HI, ⟨bel _ _⟩⟩
          case measure => simp [intOf]; omega
      · have hI := HII.out
        rw [if_neg (fun h => absurd h.1 h0)] at hI
        have HI := Aside0.mk hI
        clear hI
        go_wp2_with fail
        refine (HC2.out _).mono ?_
        rintro r1 w1 ⟨rfl, hb⟩
        have p1 := prev_call hb
        clear hb
        go_wp2_with fail
        go_roundw
        case rel => exact ⟨j + 1, by omega, by go_num, HI, ⟨bel _ _⟩⟩
        case measure => simp [intOf]; omega
    · have hI := HI.out
      obtain rfl : j = 999 := by omega
      simp only [Nat.sub_self, freeN] at hI
      have HI' := Aside0.mk hI
      clear hI HI
      go_wp2_with fail
      go_ret2
      exact ⟨by rw [← HI'.out]; rfl, bel _ _⟩
end Go.Proofs.YtjllbkeobibnkaaDoor.Q

namespace Go.Proofs.YtjllbkeobibnkaaDoor.Q
open Go Go.Proofs Go.Shelf Go.RowKit Go.Lib Go.Sort Go.Proofs.YtjllbkeobibnkaaDoorP Go.Proofs.YtjllbkeobibnkaaDoorK Go.Proofs.YtjllbkeobibnkaaDoorW.PrintWords Go.Proofs.YtjllbkeobibnkaaDoorW.PrintLast Go.Proofs.YtjllbkeobibnkaaDoorW.PrintMore
set_option linter.unusedSimpArgs false
set_option linter.unusedVariables false
/-! ### merge.Copy; the document's free, Copy -/
def copyS (cp : Nat → ByteArray × Int) (s : S24) : ByteArray × Bool := if checkS s = 0 then freeN cp (hasK s) 999 1 else (⟨#[]⟩, false)
/-- What is asked of a function that makes a path's copies. -/
def CopyF (f : Nat) (p : ByteArray) (cp : Nat → ByteArray × Int) : Prop := ∀ W (n : Nat), 1 ≤ n → n ≤ 999 → Calls Tryd.prog f #[.string p, .int .i64 (n : Int)] W fun e w' => e = .returned (.tuple #[.string (cp n).1, .int .i64 (cp n).2]) ∧ Below W.heap.size W w'
attribute [local go_sem] cell_held frozen_held
attribute [local go_sem ↓ high] lvx_of
attribute [local go_sem] lv_sc lv24 lv33
set_option maxRecDepth 100000 in
theorem copy1_any (w : World) (s : S24) (v : Array Value) (b : Nat) (hs : SideIn w s v) (ho : okS s = true) (h : w.heap[b]? = some (.cells v 24 (0, 0))) : PredF 30 #[.pointer (some ⟨b, 0, none⟩)] (hasK s) w := by
  intro W q hb
  have HA := Aside0.mk (fun W' (hb' : Below W.heap.size W W') => has_any W' s v q ((hs.below hb).below hb') (okS_short ho))
  have hW := (hb.block b (blk_lt h)).trans h
  obtain ⟨A, c, B, d, C, e, rfl, l1, l2, l3, h1, h2, h3⟩ := hs.out
  have hh : Go.Proofs.YtjllbkeobibnkaaDoorK.Holds W b (.cells #[.slice A s.f0.length c, .slice B s.f1.length d, .slice C s.f2.length e] 24) := ⟨hW⟩
  have hlt := blk_lt hW
  clear hs ho l1 l2 l3 h1 h2 h3 hb hW h
  show Calls Tryd.prog _ #[.string q, .pointer (some ⟨b, 0, none⟩)] W _
  generalize s.f0.length = n0 at *
  generalize s.f1.length = n1 at *
  generalize s.f2.length = n2 at *
  go_enter Tryd.func30, Tryd.ntmps30
  go_wp2_with fail
  refine (HA.out _ (bel _ _)).mono ?_
  rintro r1 w1 ⟨rfl, hb⟩
  have p1 := prev_call hb
  clear hb
  go_wp2_with fail
  go_ret
  exact ⟨rfl, bel _ _⟩
set_option maxRecDepth 100000 in
set_option maxHeartbeats 2000000 in
theorem Copy_any (w : World) (s : S24) (v : Array Value) (p : ByteArray) (cp : Nat → ByteArray × Int) (hcp : CopyF 56 p cp) (hs : SideIn w s v) (ho : okS s = true) :
    Calls Tryd.prog 11 #[.agg v, .string p] w fun e w' => e = .returned (.tuple #[.string (copyS cp s).1, .bool (copyS cp s).2]) ∧ Below w.heap.size w w' := by
  have eg : ∀ args w, (callFunc 30 args).run Tryd.prog w = .ok (.enter 30 args) w := enters_of Tryd.func30 (by kernel_rfl) rfl
  have HK := Aside0.mk (fun W (hb : Below w.heap.size w W) => Check_any W s v (hs.below hb) ho)
  have HF := Aside0.mk (fun W b (hb : Below w.heap.size w W) hh => free_any W p 30 #[.pointer (some ⟨b, 0, none⟩)] eg cp (hasK s) (copy1_any W s v b (hs.below hb) ho hh) hcp)
  obtain ⟨A, c, B, d, C, e, rfl, l1, l2, l3, h1, h2, h3⟩ := hs.out
  have h02 := checkS_two s
  unfold copyS
  generalize freeN cp (hasK s) 999 1 = x at HF
  generalize checkS s = k at HK h02
  clear hs ho l1 l2 l3 h1 h2 h3 eg hcp
  rcases h02 with rfl | rfl
  · rw [if_pos rfl]
    go_enter Tryd.func11, Tryd.ntmps11
    go_wp2_with fail
    refine (HK.out _ (bel _ _)).mono ?_
    rintro r1 w1 ⟨rfl, hb⟩
    have p1 := prev_call hb
    clear hb
    go_wp2_with fail
    refine (HF.out _ _ (bel _ _) held).mono ?_
    rintro r2 w2 ⟨rfl, hb⟩
    have p2 := prev_call hb
    clear hb
    go_wp2_with fail
    go_ret2
    exact ⟨rfl, bel _ _⟩
  · rw [if_neg (by decide)]
    go_enter Tryd.func11, Tryd.ntmps11
    go_wp2_with fail
    refine (HK.out _ (bel _ _)).mono ?_
    rintro r1 w1 ⟨rfl, hb⟩
    have p1 := prev_call hb
    clear hb
    go_wp2_with fail
    go_ret2
    exact ⟨rfl, bel _ _⟩
end Go.Proofs.YtjllbkeobibnkaaDoor.Q

namespace Go.Proofs.YtjllbkeobibnkaaDoor.Q
open Go Go.Proofs Go.Shelf Go.RowKit Go.Lib Go.Sort Go.Proofs.YtjllbkeobibnkaaDoorP Go.Proofs.YtjllbkeobibnkaaDoorK Go.Proofs.YtjllbkeobibnkaaDoorW.PrintWords Go.Proofs.YtjllbkeobibnkaaDoorW.PrintLast Go.Proofs.YtjllbkeobibnkaaDoorW.PrintMore
set_option linter.unusedSimpArgs false
set_option linter.unusedVariables false
/-! ### The document's free, Copy -/
attribute [local go_sem] cell_held frozen_held
attribute [local go_sem ↓ high] lvx_of
attribute [local go_sem] lv_sc lv24 lv33
def inL (l : List ByteArray) (q : ByteArray) : Bool := l.any fun x => x.toList == q.toList
set_option maxRecDepth 100000 in
set_option maxHeartbeats 4000000 in
theorem rfree_any (w : World) (s : S24) (v : Array Value) (p : ByteArray) (cp : Nat → ByteArray × Int) (hcp : CopyF 57 p cp) (hs : SideIn w s v) (ho : okS s = true) (L : Option Addr) (cl : Nat) (l : List ByteArray) (hl : Kd.C Kd.string w L l.length l) (hll : l.length ≤ 1048576) :
    Calls Tryd.prog 32 #[.agg v, .string p, .slice L l.length cl] w fun e w' => e = .returned (.tuple #[.string (freeN cp (fun q => hasK s q || inL l q) 999 1).1, .bool (freeN cp (fun q => hasK s q || inL l q) 999 1).2]) ∧ Below w.heap.size w w' := by
  have HH := Aside0.mk (fun W q (hb : Below w.heap.size w W) => rhas_any W s v q (hs.below hb) (okS_short ho))
  have HC := Aside0.mk hcp
  have HR := Aside0.mk hl
  obtain ⟨A, c, B, d, C, e, rfl, l1, l2, l3, h1, h2, h3⟩ := hs.out
  obtain ⟨R, hR⟩ : ∃ R, freeN cp (fun q => hasK s q || inL l q) 999 1 = R := ⟨_, rfl⟩
  rw [hR]
  clear hcp hs ho l1 l2 l3 h1 h2 h3 hl
  generalize s.f0.length = n0 at *
  generalize s.f1.length = n1 at *
  generalize s.f2.length = n2 at *
  go_enter Tryd.func32, Tryd.ntmps32
  go_wp2_with fail
  have hbox : Go.Proofs.YtjllbkeobibnkaaDoorK.Holds (w.alloc (.cells #[.slice A n0 c, .slice B n1 d, .slice C n2 e] 24)) w.heap.size (.cells #[.slice A n0 c, .slice B n1 d, .slice C n2 e] 24) := inferInstance
  go_loopw [8] (fun i wr => ∃ j : Nat, j ≤ 999 ∧ i = .int .i64 ((j : Int) + 1) ∧ Aside0 (freeN cp (fun q => hasK s q || inL l q) (999 - j) (j + 1) = R) ∧ Aside0 (Below w.heap.size w wr) ∧ Aside0 (Go.Proofs.YtjllbkeobibnkaaDoorK.Holds wr w.heap.size (.cells #[.slice A n0 c, .slice B n1 d, .slice C n2 e] 24))) (fun i _ => 1000 - (intOf i).toNat)
  case atStart => exact ⟨0, Nat.zero_le _, rfl, ⟨hR⟩, ⟨bel _ _⟩, ⟨hbox⟩⟩
  case round =>
    obtain ⟨j, hj, rfl, HI, HB, HX⟩ := hrel
    have bw : Bel w.heap.size w wr := ⟨fun _ => HB.out⟩
    have hx := HX.out
    clear hR hbox
    by_cases hlt : j < 999
    · have hI := HI.out
      obtain ⟨d2, hd⟩ : ∃ d2, 999 - j = d2 + 1 := ⟨998 - j, by omega⟩
      rw [hd] at hI
      simp only [freeN] at hI
      have hc := fun W => HC.out W (j + 1) (by omega) (by omega)
      generalize cp (j + 1) = q at hc hI
      obtain ⟨q, er⟩ := q
      dsimp only at hc hI
      have hd2 : d2 = 999 - (j + 1) := by omega
      rw [hd2] at hI
      have HC2 := Aside0.mk hc
      have hpq := fun W (hb : Below w.heap.size w W) => HH.out W q hb
      obtain ⟨b, hbq⟩ : ∃ b, hasK s q = b := ⟨_, rfl⟩
      simp only [hbq] at hpq hI
      have HPQ := Aside0.mk hpq
      have HII := Aside0.mk hI
      clear hbq
      clear hc hI hd hd2 HI hpq
      have hw1 : ((j + 1 : Nat) : Int) = (j : Int) + 1 := by omega
      rw [hw1] at HC2
      clear hw1
      go_wp2_with fail
      refine (HC2.out _).mono ?_
      rintro r1 w1 ⟨rfl, hb⟩
      have p1 := prev_call hb
      clear hb
      by_cases h0 : er = 0
      · subst h0
        go_wp2_with fail
        refine (HPQ.out _ (bel _ _)).mono ?_
        rintro r2 w2 ⟨rfl, hb⟩
        have p2 := prev_call hb
        clear hb
        go_wp2_with fail
        go_loopw [11, 12] (fun t i wz => ∃ (j2 : Nat) (y : Bool), j2 ≤ l.length ∧ i = .int .i64 (j2 : Int) ∧ t = .bool y ∧ Aside0 ((y || inL (l.drop j2) q) = (b || inL l q)) ∧ wz = w2) (fun _ i _ => l.length - (intOf i).toNat)
        case atStart => exact ⟨0, b, Nat.zero_le _, rfl, rfl, ⟨rfl⟩, rfl⟩
        case round =>
          obtain ⟨j2, y, hj2, rfl, rfl, HY, hwz⟩ := hrel
          obtain rfl : w2 = wr := hwz.symm
          by_cases hlt2 : j2 < l.length
          · cases y with
            | true =>
              go_wp2_with fail
              go_roundw
              case rel => exact ⟨j2 + 1, true, by omega, by go_num, rfl, ⟨by have := HY.out; rw [Bool.true_or] at this ⊢; exact this⟩, trivial⟩
              case measure => simp [intOf]; omega
            | false =>
              obtain ⟨ad, e0, x0⟩ := C_str (Kd.C_below HR.out (bel w w2)) j2 hlt2
              subst e0
              have hY := HY.out
              rw [List.drop_eq_getElem_cons hlt2] at hY
              unfold inL at hY
              rw [List.any_cons, Bool.false_or] at hY
              generalize l[j2] = z at x0 hY
              have HY2 := Aside0.mk hY
              clear hY HY
              go_wp2_with fail
              go_roundw
              case rel => exact ⟨j2 + 1, _, by omega, by go_num, rfl, HY2, trivial⟩
              case measure => simp [intOf]; omega
          · have hY := HY.out
            rw [List.drop_of_length_le (by omega)] at hY
            have hY : y = (b || inL l q) := by rw [← hY]; unfold inL; simp
            have HY2 := Aside0.mk hY
            clear hY HY
            cases y with
            | true =>
              have hI := HII.out
              rw [if_neg (by rw [← HY2.out]; exact fun h => absurd h.2 (by decide))] at hI
              have HI := Aside0.mk hI
              clear hI
              go_wp2_with fail
              go_roundw
              case rel => exact ⟨j + 1, by omega, by go_num, HI, ⟨bel _ _⟩, ⟨inferInstance⟩⟩
              case measure => simp [intOf]; omega
            | false =>
              have hI := HII.out
              rw [if_pos (by first | exact ⟨rfl, HY2.out.symm⟩ | exact ⟨trivial, HY2.out.symm⟩)] at hI
              have HI := Aside0.mk hI
              clear hI
              go_wp2_with fail
              go_ret2
              exact ⟨by rw [← HI.out]; rfl, bel _ _⟩
      · go_wp2_with fail
        go_loopw [11, 12] (fun t i wz => ∃ (j2 : Nat) (y : Bool), j2 ≤ l.length ∧ i = .int .i64 (j2 : Int) ∧ t = .bool y ∧ Aside0 ((y || inL (l.drop j2) q) = (true || inL l q)) ∧ wz = w1) (fun _ i _ => l.length - (intOf i).toNat)
        case atStart => exact ⟨0, true, Nat.zero_le _, rfl, rfl, ⟨rfl⟩, rfl⟩
        case round =>
          obtain ⟨j2, y, hj2, rfl, rfl, HY, hwz⟩ := hrel
          obtain rfl : w1 = wr := hwz.symm
          by_cases hlt2 : j2 < l.length
          · cases y with
            | true =>
              go_wp2_with fail
              go_roundw
              case rel => exact ⟨j2 + 1, true, by omega, by go_num, rfl, ⟨by have := HY.out; rw [Bool.true_or] at this ⊢; exact this⟩, trivial⟩
              case measure => simp [intOf]; omega
            | false =>
              obtain ⟨ad, e0, x0⟩ := C_str (Kd.C_below HR.out (bel w w1)) j2 hlt2
              subst e0
              have hY := HY.out
              rw [List.drop_eq_getElem_cons hlt2] at hY
              unfold inL at hY
              rw [List.any_cons, Bool.false_or] at hY
              generalize l[j2] = z at x0 hY
              have HY2 := Aside0.mk hY
              clear hY HY
              go_wp2_with fail
              go_roundw
              case rel => exact ⟨j2 + 1, _, by omega, by go_num, rfl, HY2, trivial⟩
              case measure => simp [intOf]; omega
          · have hY := HY.out
            rw [List.drop_of_length_le (by omega)] at hY
            have hY : y = (true || inL l q) := by rw [← hY]; unfold inL; simp
            have HY2 := Aside0.mk hY
            clear hY HY
            cases y with
            | true =>
              have hI := HII.out
              rw [if_neg (fun h => absurd h.1 h0)] at hI
              have HI := Aside0.mk hI
              clear hI
              go_wp2_with fail
              go_roundw
              case rel => exact ⟨j + 1, by omega, by go_num, HI, ⟨bel _ _⟩, ⟨inferInstance⟩⟩
              case measure => simp [intOf]; omega
            | false =>
              exact absurd HY2.out (by rw [Bool.true_or]; decide)
    · have hI := HI.out
      obtain rfl : j = 999 := by omega
      simp only [Nat.sub_self, freeN] at hI
      have HI' := Aside0.mk hI
      clear hI HI
      go_wp2_with fail
      go_ret2
      exact ⟨by rw [← HI'.out]; rfl, bel _ _⟩
theorem inL_nil (s : S24) : (fun q => hasK s q || inL [] q) = hasK s := by
  funext q
  exact Bool.or_false _
set_option maxRecDepth 100000 in
set_option maxHeartbeats 2000000 in
theorem rCopy_any (w : World) (s : S24) (v : Array Value) (p : ByteArray) (cp : Nat → ByteArray × Int) (hcp : CopyF 57 p cp) (hs : SideIn w s v) (ho : okS s = true) :
    Calls Tryd.prog 12 #[.agg v, .string p] w fun e w' => e = .returned (.tuple #[.string (copyS cp s).1, .bool (copyS cp s).2]) ∧ Below w.heap.size w w' := by
  have HK := Aside0.mk (fun W (hb : Below w.heap.size w W) => rCheck_any W s v (hs.below hb) ho)
  have hf := fun W (hb : Below w.heap.size w W) => rfree_any W s v p cp hcp (hs.below hb) ho none 0 [] (Kd.C_nil Kd.string W) (by decide)
  rw [inL_nil] at hf
  have HF := Aside0.mk hf
  obtain ⟨A, c, B, d, C, e, rfl, l1, l2, l3, h1, h2, h3⟩ := hs.out
  have h02 := checkS_two s
  unfold copyS
  clear hf
  generalize freeN cp (hasK s) 999 1 = x at HF
  generalize checkS s = k at HK h02
  clear hs ho l1 l2 l3 h1 h2 h3 hcp
  rcases h02 with rfl | rfl
  · rw [if_pos rfl]
    go_enter Tryd.func12, Tryd.ntmps12
    go_wp2_with fail
    refine (HK.out _ (bel _ _)).mono ?_
    rintro r1 w1 ⟨rfl, hb⟩
    have p1 := prev_call hb
    clear hb
    go_wp2_with fail
    refine (HF.out _ (bel _ _)).mono ?_
    rintro r2 w2 ⟨rfl, hb⟩
    have p2 := prev_call hb
    clear hb
    go_wp2_with fail
    go_ret2
    exact ⟨rfl, bel _ _⟩
  · rw [if_neg (by decide)]
    go_enter Tryd.func12, Tryd.ntmps12
    go_wp2_with fail
    refine (HK.out _ (bel _ _)).mono ?_
    rintro r1 w1 ⟨rfl, hb⟩
    have p1 := prev_call hb
    clear hb
    go_wp2_with fail
    go_ret2
    exact ⟨rfl, bel _ _⟩
end Go.Proofs.YtjllbkeobibnkaaDoor.Q

namespace Go.Proofs.YtjllbkeobibnkaaDoor.Q
open Go Go.Proofs Go.Shelf Go.RowKit Go.Lib Go.Sort Go.Proofs.YtjllbkeobibnkaaDoorP Go.Proofs.YtjllbkeobibnkaaDoorK Go.Proofs.YtjllbkeobibnkaaDoorW.PrintWords Go.Proofs.YtjllbkeobibnkaaDoorW.PrintLast Go.Proofs.YtjllbkeobibnkaaDoorW.PrintMore
set_option linter.unusedSimpArgs false
set_option linter.unusedVariables false
/-! ### slices.Contains of texts; the plan's predicate -/
def idxB (q : ByteArray) : Nat → List ByteArray → Int
  | _, [] => -1
  | i, x :: l => if (q.toList == x.toList) = true then (i : Int) else idxB q (i + 1) l
theorem idxB_in (q : ByteArray) (l : List ByteArray) : ∀ i : Nat, decide (0 ≤ idxB q i l) = inL l q := by
  induction l with
  | nil => intro i; rfl
  | cons x l ih =>
    intro i
    unfold idxB inL
    rw [List.any_cons]
    have hs : (x.toList == q.toList) = (q.toList == x.toList) := by rw [Bool.eq_iff_iff, beq_iff_eq, beq_iff_eq]; exact eq_comm
    rw [hs]
    cases h : (q.toList == x.toList) with
    | true => rw [if_pos rfl, Bool.true_or]; exact decide_eq_true (by omega)
    | false => rw [if_neg (by decide), Bool.false_or]; exact ih (i + 1)
attribute [local go_sem] cell_held frozen_held
attribute [local go_sem ↓ high] lvx_of
attribute [local go_sem] lv_sc lv24 lv33
set_option maxRecDepth 100000 in
set_option maxHeartbeats 1000000 in
theorem idxs_any (w : World) (A : Option Addr) (c : Nat) (l : List ByteArray) (q : ByteArray) (hC : Kd.C Kd.string w A l.length l) (hl : l.length ≤ 1048576) :
    Calls Tryd.prog 70 #[.slice A l.length c, .string q] w fun e w' => e = .returned (.int .i64 (idxB q 0 l)) ∧ Below w.heap.size w w' := by
  have HR := Aside0.mk hC
  obtain ⟨R, hR⟩ : ∃ R, idxB q 0 l = R := ⟨_, rfl⟩
  rw [hR]
  have HR0 := Aside0.mk hR
  clear hC hR
  go_enter Tryd.func70, Tryd.ntmps70
  go_wp2_with fail
  go_loopw [8] (fun i wr => ∃ j : Nat, j ≤ l.length ∧ i = .int .i64 (j : Int) ∧ Aside0 (idxB q j (l.drop j) = R) ∧ wr = w) (fun i _ => l.length - (intOf i).toNat)
  case atStart => exact ⟨0, Nat.zero_le _, rfl, HR0, rfl⟩
  case round =>
    obtain ⟨j, hj, rfl, HI, hw⟩ := hrel
    obtain rfl : w = wr := hw.symm
    by_cases hlt : j < l.length
    · obtain ⟨ad, e, x0⟩ := C_str' HR.out j hlt
      subst e
      have hI := HI.out
      rw [List.drop_eq_getElem_cons hlt] at hI
      simp only [idxB] at hI
      generalize l[j] = x at x0 hI
      have HII := Aside0.mk hI
      clear HI hI
      cases hx : (q.toList == x.toList) with
      | true =>
        have hI := HII.out
        rw [if_pos hx] at hI
        have HI := Aside0.mk hI
        clear hI
        go_wp2_with fail
        go_ret
        exact ⟨by rw [← HI.out]; rfl, bel _ _⟩
      | false =>
        have hI := HII.out
        rw [if_neg (by rw [hx]; decide)] at hI
        have HI := Aside0.mk hI
        clear hI
        go_wp2_with fail
        go_roundw
        case rel => exact ⟨j + 1, by omega, by go_num, HI, trivial⟩
        case measure => simp [intOf]; omega
    · have hI := HI.out
      rw [List.drop_of_length_le (by omega)] at hI
      have HI' := Aside0.mk hI
      clear hI HI
      go_wp2_with fail
      go_ret
      exact ⟨by rw [← HI'.out]; rfl, bel _ _⟩
set_option maxRecDepth 100000 in
theorem cont_any (w : World) (A : Option Addr) (c : Nat) (l : List ByteArray) (q : ByteArray) (hC : Kd.C Kd.string w A l.length l) (hl : l.length ≤ 1048576) :
    Calls Tryd.prog 46 #[.slice A l.length c, .string q] w fun e w' => e = .returned (.bool (inL l q)) ∧ Below w.heap.size w w' := by
  have HI := Aside0.mk (fun W (hb : Below w.heap.size w W) => idxs_any W A c l q (Kd.C_below hC hb) hl)
  rw [← idxB_in q l 0]
  generalize idxB q 0 l = k at HI
  clear hC
  by_cases h0 : 0 ≤ k
  · have h1 : decide (0 ≤ k) = true := decide_eq_true h0
    rw [h1]
    go_enter Tryd.func46, Tryd.ntmps46
    go_wp2_with fail
    refine (HI.out _ (bel _ _)).mono ?_
    rintro r1 w1 ⟨rfl, hb⟩
    have p1 := prev_call hb
    clear hb
    go_wp2_with fail
    go_ret
    exact ⟨by simp [h0], bel _ _⟩
  · have h1 : decide (0 ≤ k) = false := decide_eq_false h0
    rw [h1]
    go_enter Tryd.func46, Tryd.ntmps46
    go_wp2_with fail
    refine (HI.out _ (bel _ _)).mono ?_
    rintro r1 w1 ⟨rfl, hb⟩
    have p1 := prev_call hb
    clear hb
    go_wp2_with fail
    go_ret
    exact ⟨by simp [h0], bel _ _⟩
/-- What a plan's copies are not taken of. -/
def takenS (s : S24) (ch : List ByteArray) (q : ByteArray) : Bool := hasK s q || inL ch q
set_option maxRecDepth 100000 in
set_option maxHeartbeats 1000000 in
theorem plan1_any (w : World) (s : S24) (v : Array Value) (b b2 : Nat) (A : Option Addr) (cc : Nat) (ch : List ByteArray) (hs : SideIn w s v) (ho : okS s = true) (h : w.heap[b]? = some (.cells v 24 (0, 0))) (h2 : w.heap[b2]? = some (.cells #[.slice A ch.length cc] 41 (0, 0))) (hC : Kd.C Kd.string w A ch.length ch) (hl : ch.length ≤ 1048576) :
    PredF 45 #[.pointer (some ⟨b, 0, none⟩), .pointer (some ⟨b2, 0, none⟩)] (takenS s ch) w := by
  intro W q hb
  have HA := Aside0.mk (fun W' (hb' : Below W.heap.size W W') => has_any W' s v q ((hs.below hb).below hb') (okS_short ho))
  have HC := Aside0.mk (fun W' (hb' : Below W.heap.size W W') => cont_any W' A cc ch q (Kd.C_below (Kd.C_below hC hb) hb') hl)
  have hW := (hb.block b (blk_lt h)).trans h
  have hW2 := (hb.block b2 (blk_lt h2)).trans h2
  obtain ⟨A', c, B, d, C, e, rfl, l1, l2, l3, h1, h2', h3⟩ := hs.out
  have hh : Go.Proofs.YtjllbkeobibnkaaDoorK.Holds W b (.cells #[.slice A' s.f0.length c, .slice B s.f1.length d, .slice C s.f2.length e] 24) := ⟨hW⟩
  have hh2 : Go.Proofs.YtjllbkeobibnkaaDoorK.Holds W b2 (.cells #[.slice A ch.length cc] 41) := ⟨hW2⟩
  have hlt := blk_lt hW
  have hlt2 := blk_lt hW2
  clear hs ho l1 l2 l3 h1 h2 h3 hb hW hW2 h hC hl h2'
  unfold takenS
  show Calls Tryd.prog _ #[.string q, .pointer (some ⟨b, 0, none⟩), .pointer (some ⟨b2, 0, none⟩)] W _
  generalize s.f0.length = n0 at *
  generalize s.f1.length = n1 at *
  generalize s.f2.length = n2 at *
  generalize ch.length = n3 at *
  generalize hasK s q = x at *
  generalize inL ch q = y at *
  cases x with
  | true =>
    go_enter Tryd.func45, Tryd.ntmps45
    go_wp2_with fail
    refine (HA.out _ (bel _ _)).mono ?_
    rintro r1 w1 ⟨rfl, hb⟩
    have p1 := prev_call hb
    clear hb
    go_wp2_with fail
    go_ret
    exact ⟨rfl, bel _ _⟩
  | false =>
    go_enter Tryd.func45, Tryd.ntmps45
    go_wp2_with fail
    refine (HA.out _ (bel _ _)).mono ?_
    rintro r1 w1 ⟨rfl, hb⟩
    have p1 := prev_call hb
    clear hb
    go_wp2_with fail
    refine (HC.out _ (bel _ _)).mono ?_
    rintro r2 w2 ⟨rfl, hb⟩
    have p2 := prev_call hb
    clear hb
    go_wp2_with fail
    go_ret
    exact ⟨rfl, bel _ _⟩
end Go.Proofs.YtjllbkeobibnkaaDoor.Q

namespace Go.Proofs.YtjllbkeobibnkaaDoor.Q
open Go Go.Proofs Go.Shelf Go.RowKit Go.Proofs.YtjllbkeobibnkaaDoorK Go.Proofs.YtjllbkeobibnkaaDoorW.PrintWords Go.Proofs.YtjllbkeobibnkaaDoorW.PrintLast Go.Proofs.YtjllbkeobibnkaaDoorW.PrintMore
set_option linter.unusedSimpArgs false
set_option linter.unusedVariables false
/-! ### path.decimal -/
/-- Where the first one stands that is no '0'. -/
def idxU : Nat → List UInt8 → Int
  | _, [] => -1
  | i, x :: l => if x = 48 then idxU (i + 1) l else (i : Int)
set_option maxRecDepth 100000 in
theorem dec1_any (w : World) (c : UInt8) : Calls Tryd.prog 92 #[.int .u8 (c.toNat : Int)] w fun e w' => e = .returned (.bool (!decide (c = 48))) ∧ w = w' := by
  have hc : ((c.toNat : Int) != 48) = !decide (c = 48) := by
    by_cases h : c = 48
    · subst h; rfl
    · have : (c.toNat : Int) ≠ 48 := fun e => h (UInt8.toNat_inj.1 (by have : (48 : UInt8).toNat = 48 := rfl; omega))
      rw [bne_iff_ne.mpr this, decide_eq_false h]
      rfl
  rw [← hc]
  clear hc
  go_enter Tryd.func92, Tryd.ntmps92
  go_wp2_with fail
  go_ret
  exact ⟨rfl, rfl⟩
set_option maxRecDepth 100000 in
set_option maxHeartbeats 1000000 in
theorem idxu_any (w : World) (b c : Nat) (l : List UInt8) (hl : l.length ≤ 1048576) (hc : ∀ j (h : j < l.length), w.cell? ⟨b, j, none⟩ = some (.int .u8 (l[j].toNat : Int))) :
    Calls Tryd.prog 91 #[.slice (some ⟨b, 0, none⟩) l.length c, .func (.func 92) #[] #[]] w fun e w' => e = .returned (.int .i64 (idxU 0 l)) ∧ w = w' := by
  have eg : ∀ args w, (callFunc 92 args).run Tryd.prog w = .ok (.enter 92 args) w := enters_of Tryd.func92 (by kernel_rfl) rfl
  have HC := Aside0.mk hc
  have HD := Aside0.mk (fun c => dec1_any w c)
  clear hc
  go_enter Tryd.func91, Tryd.ntmps91
  go_wp2_with fail
  go_loopw [8] (fun i wr => ∃ j : Nat, j ≤ l.length ∧ i = .int .i64 (j : Int) ∧ Aside0 (idxU j (l.drop j) = idxU 0 l) ∧ wr = w) (fun i _ => l.length - (intOf i).toNat)
  case atStart => exact ⟨0, Nat.zero_le _, rfl, ⟨rfl⟩, rfl⟩
  case round =>
    obtain ⟨j, hj, rfl, HI, hw⟩ := hrel
    obtain rfl : w = wr := hw.symm
    by_cases hlt : j < l.length
    · have x0 := HC.out j hlt
      have hI := HI.out
      rw [List.drop_eq_getElem_cons hlt] at hI
      simp only [idxU] at hI
      have hd := HD.out l[j]
      generalize l[j] = x at x0 hI hd
      have HX := Aside0.mk hI
      by_cases hx : x = 48
      · have hI := HX.out
        rw [if_pos hx] at hI
        rw [decide_eq_true hx] at hd
        have HI := Aside0.mk hI
        have HD2 := Aside0.mk hd
        clear hI hx hd HX
        go_wp2_with fail
        refine HD2.out.mono ?_
        rintro e w1 ⟨rfl, rfl⟩
        go_wp2_with fail
        go_roundw
        case rel => exact ⟨j + 1, by omega, by go_num, HI, trivial⟩
        case measure => simp [intOf]; omega
      · have hI := HX.out
        rw [if_neg hx] at hI
        rw [decide_eq_false hx] at hd
        have HI := Aside0.mk hI
        have HD2 := Aside0.mk hd
        clear hI hx hd HX
        go_wp2_with fail
        refine HD2.out.mono ?_
        rintro e w1 ⟨rfl, rfl⟩
        go_wp2_with fail
        go_ret
        exact ⟨by rw [← HI.out]; rfl, rfl⟩
    · have hI := HI.out
      rw [List.drop_of_length_le (by omega)] at hI
      have HI' := Aside0.mk hI
      clear hI HI
      go_wp2_with fail
      go_ret
      exact ⟨by rw [← HI'.out]; rfl, rfl⟩
end Go.Proofs.YtjllbkeobibnkaaDoor.Q

namespace Go.Proofs.YtjllbkeobibnkaaDoor.Q
open Go Go.Proofs Go.Shelf Go.RowKit Go.Proofs.YtjllbkeobibnkaaDoorK Go.Proofs.YtjllbkeobibnkaaDoorW.PrintWords Go.Proofs.YtjllbkeobibnkaaDoorW.PrintLast Go.Proofs.YtjllbkeobibnkaaDoorW.PrintMore
set_option linter.unusedSimpArgs false
set_option linter.unusedVariables false
def digs (n : Nat) : List UInt8 := [UInt8.ofNat (48 + n / 100), UInt8.ofNat (48 + n / 10 % 10), UInt8.ofNat (48 + n % 10)]
theorem u8n (n : Nat) (h : n < 256) : ((UInt8.ofNat n).toNat : Int) = (n : Int) := by
  have h2 : (UInt8.ofNat n).toNat = n := Nat.mod_eq_of_lt h
  rw [h2]
theorem u8ne (n : Nat) (h : n < 256) (e : UInt8.ofNat n = 48) : n = 48 := by
  have h1 := congrArg UInt8.toNat e
  have h2 : (UInt8.ofNat n).toNat = n := Nat.mod_eq_of_lt h
  have h3 : (48 : UInt8).toNat = 48 := rfl
  omega
theorem three (x y z : UInt8) (h : x = 48 → y = 48 → z = 48 → False) : (idxU 0 [x, y, z] = 0 ∧ [x, y, z].dropWhile (· == 48) = [x, y, z]) ∨ (idxU 0 [x, y, z] = 1 ∧ [x, y, z].dropWhile (· == 48) = [y, z]) ∨ (idxU 0 [x, y, z] = 2 ∧ [x, y, z].dropWhile (· == 48) = [z]) := by
  by_cases c0 : x = 48
  · by_cases c1 : y = 48
    · have c2 : ¬ z = 48 := fun c2 => h c0 c1 c2
      have b2 : (z == 48) = false := beq_eq_false_iff_ne.mpr c2
      subst c0 c1
      exact .inr (.inr ⟨by simp [idxU, c2], by simp [List.dropWhile, b2]⟩)
    · have b1 : (y == 48) = false := beq_eq_false_iff_ne.mpr c1
      subst c0
      exact .inr (.inl ⟨by simp [idxU, c1], by simp [List.dropWhile, b1]⟩)
  · have b0 : (x == 48) = false := beq_eq_false_iff_ne.mpr c0
    exact .inl ⟨by simp [idxU, c0], by simp [List.dropWhile, b0]⟩
theorem bstr_event {P : Program} {ops : Array Oper} {rest : List Oper} {o : Oper} {a : Act} {W : World} {Q : Exit → Act → World → Prop} (hgd : o.guard = none) {src dst e : TypeId} {x : Operand} (ho : o.op = .convert src dst x) {ad : Addr} {cap : Nat} (l : List UInt8) (hc : ∀ j (hj : j < l.length), W.cell? (ad.add j) = some (.int .u8 (l[j].toNat : Int))) (hx : a.eval x = .slice (some ad) l.length cap)
    (hs : P.underlying src = some (.slice e)) (he : P.underlying e = some (.int .u8)) (hd : P.underlying dst = some .string)
    (h : wpList P ops Q rest (a.put o.dst (.string ⟨l.toArray⟩)) W) : wpList P ops Q (o :: rest) a W := by
  have hr := run_convert_bytes_back (P := P) W src dst e ad cap l hs he hd hc
  exact Kd.event_run hgd (by unfold execOp; simp only [ho, hx, Sem.run_bind, hr, Result.andThen_ok, Sem.run_pure]) h
/-- The digits of n. -/
def decB (n : Nat) : ByteArray := ⟨((digs n).dropWhile (· == 48)).toArray⟩
set_option maxRecDepth 100000 in
theorem decimal_any (w : World) (n : Nat) (h1 : 1 ≤ n) (h2 : n ≤ 999) : Calls Tryd.prog 78 #[.int .i64 (n : Int)] w fun e w' => e = .returned (.string (decB n)) ∧ Below w.heap.size w w' := by
  obtain ⟨x, hx⟩ : ∃ x, UInt8.ofNat (48 + n / 100) = x := ⟨_, rfl⟩
  obtain ⟨y, hy⟩ : ∃ x, UInt8.ofNat (48 + n / 10 % 10) = x := ⟨_, rfl⟩
  obtain ⟨z, hz⟩ : ∃ x, UInt8.ofNat (48 + n % 10) = x := ⟨_, rfl⟩
  have hdg : digs n = [x, y, z] := by unfold digs; rw [hx, hy, hz]
  have q0 : (x.toNat : Int) = 48 + (n : Int) / 100 := by rw [← hx, u8n _ (by omega)]; omega
  have q1 : (y.toNat : Int) = 48 + (n : Int) / 10 % 10 := by rw [← hy, u8n _ (by omega)]; omega
  have q2 : (z.toNat : Int) = 48 + (n : Int) % 10 := by rw [← hz, u8n _ (by omega)]; omega
  have e0 : x = 48 → 48 + n / 100 = 48 := fun e => u8ne (48 + n / 100) (by omega) (by rw [hx, e])
  have e1 : y = 48 → 48 + n / 10 % 10 = 48 := fun e => u8ne (48 + n / 10 % 10) (by omega) (by rw [hy, e])
  have e2 : z = 48 → 48 + n % 10 = 48 := fun e => u8ne (48 + n % 10) (by omega) (by rw [hz, e])
  have hk : (idxU 0 [x, y, z] = 0 ∧ decB n = ⟨#[x, y, z]⟩) ∨ (idxU 0 [x, y, z] = 1 ∧ decB n = ⟨#[y, z]⟩) ∨ (idxU 0 [x, y, z] = 2 ∧ decB n = ⟨#[z]⟩) := by
    have h3 := three x y z (fun a b c => by have := e0 a; have := e1 b; have := e2 c; omega)
    unfold decB
    rw [hdg]
    rcases h3 with ⟨h, e⟩ | ⟨h, e⟩ | ⟨h, e⟩
    · exact .inl ⟨h, by rw [e]⟩
    · exact .inr (.inl ⟨h, by rw [e]⟩)
    · exact .inr (.inr ⟨h, by rw [e]⟩)
  have HI := Aside0.mk (fun W b c hc => idxu_any W b c [x, y, z] (by simp) hc)
  have HQ := Aside0.mk (And.intro q0 (And.intro q1 q2))
  generalize idxU 0 [x, y, z] = k at HI hk
  have hcells : ∀ (W : World) (b : Nat), W.heap[b]? = some (.cells #[.int .u8 (48 + (n : Int) / 100), .int .u8 (48 + (n : Int) / 10 % 10), .int .u8 (48 + (n : Int) % 10)] 5 (0, 0)) → ∀ j (h : j < [x, y, z].length), W.cell? ⟨b, j, none⟩ = some (.int .u8 ([x, y, z][j].toNat : Int)) := fun W b hb j hj => by
    rw [blk_cell hb]
    have hj3 : j < 3 := hj
    rcases (show j = 0 ∨ j = 1 ∨ j = 2 by omega) with rfl | rfl | rfl
    · show some _ = some (Value.int .u8 (x.toNat : Int)); rw [q0]; rfl
    · show some _ = some (Value.int .u8 (y.toNat : Int)); rw [q1]; rfl
    · show some _ = some (Value.int .u8 (z.toNat : Int)); rw [q2]; rfl
  have HCE := Aside0.mk hcells
  clear hcells e0 e1 e2 q0 q1 q2 hdg hx hy hz
  rcases hk with ⟨rfl, hr⟩ | ⟨rfl, hr⟩ | ⟨rfl, hr⟩
  all_goals
    rw [hr]
    have HR := Aside0.mk hr
    clear hr
    go_enter Tryd.func78, Tryd.ntmps78
    go_wp2_with fail
    refine (HI.out _ _ _ (HCE.out _ _ held)).mono ?_
    rintro e w1 ⟨rfl, hw⟩
    subst hw
  · go_wp2_with (refine bstr_event rfl (src := 121) (dst := 9) (e := 5) rfl [x, y, z] (fun j hj => by rw [Addr.add_lit, Nat.zero_add]; exact HCE.out _ _ held j hj) rfl Tryd.underlying121 Tryd.underlying5 Tryd.underlying9 ?_)
    go_ret
    exact ⟨rfl, bel _ _⟩
  · go_wp2_with (refine bstr_event rfl (src := 121) (dst := 9) (e := 5) rfl [y, z] (fun j hj => by rw [Addr.add_lit, Nat.add_comm]; exact HCE.out _ _ held (j + 1) (Nat.succ_lt_succ hj)) rfl Tryd.underlying121 Tryd.underlying5 Tryd.underlying9 ?_)
    go_ret
    exact ⟨rfl, bel _ _⟩
  · go_wp2_with (refine bstr_event rfl (src := 121) (dst := 9) (e := 5) rfl [z] (fun j hj => by rw [Addr.add_lit, Nat.add_comm]; exact HCE.out _ _ held (j + 2) (Nat.succ_lt_succ (Nat.succ_lt_succ hj))) rfl Tryd.underlying121 Tryd.underlying5 Tryd.underlying9 ?_)
    go_ret
    exact ⟨rfl, bel _ _⟩
end Go.Proofs.YtjllbkeobibnkaaDoor.Q

namespace Go.Proofs.YtjllbkeobibnkaaDoor.Q
open Go.RowKit Go.Proofs.YtjllbkeobibnkaaDoorW.PrintWords Go.Proofs.YtjllbkeobibnkaaDoorW.PrintLast Go.Proofs.YtjllbkeobibnkaaDoorW.PrintMore
attribute [local go_sem] max2_int min2_int max_two min_two max_three min_three max_four min_four   -- for this text's walks alone
attribute [local go_sem ↓] Go.Proofs.YtjllbkeobibnkaaDoorK.isSome_setCell
set_option linter.unusedVariables false
set_option linter.unusedSimpArgs false

/-! ### aquiferref05_decimal: function 80 -/
def aquiferref05_decimal.l0 : Nat → Int → ByteArray → Option (ByteArray)
  | 0, _, _ => none
  | k + 1, x0, x3 => if x0 > 0 then (if 0 ≤ (Int.tmod x0 10) then (if (Int.tmod x0 10) ≤ (wrap64 ((Int.tmod x0 10) + 1)) then (if (wrap64 ((Int.tmod x0 10) + 1)) ≤ 10 then (if ((⟨#[48, 49, 50, 51, 52, 53, 54, 55, 56, 57]⟩ : ByteArray).extract ((Int.tmod x0 10) : Int).toNat ((wrap64 ((Int.tmod x0 10) + 1)) : Int).toNat).size + x3.size ≤ 9223372036854775807 then (aquiferref05_decimal.l0 k (wrap64 (Int.tdiv x0 10)) (((⟨#[48, 49, 50, 51, 52, 53, 54, 55, 56, 57]⟩ : ByteArray).extract ((Int.tmod x0 10) : Int).toNat ((wrap64 ((Int.tmod x0 10) + 1)) : Int).toNat) ++ x3)) else (none)) else (none)) else (none)) else (none)) else (some x3)
def aquiferref05_decimal.f (k : Nat) (a0 : Int) : Option (ByteArray) := aquiferref05_decimal.l0 k a0 (⟨#[]⟩ : ByteArray)
theorem aquiferref05_decimal.mono_l : ∀ k, (∀ y0 y1, LeO (aquiferref05_decimal.l0 k y0 y1) (aquiferref05_decimal.l0 (k + 1) y0 y1))
  | 0 => fun _ _ r h => by simp [aquiferref05_decimal.l0] at h
  | k + 1 => by
    have ih0 := aquiferref05_decimal.mono_l k
    · intro y0 y1
      unfold aquiferref05_decimal.l0
      repeat' first
      | (with_reducible exact ih0 _ _)
      | (with_reducible exact LeO.refl _)
      | (with_reducible exact LeO.none _)
      | (with_reducible refine LeO.ite ?_ ?_)
      | (with_reducible refine LeO.bind ?_ (fun _ => ?_))
      | exact ih0 _ _
      | exact LeO.none _
      | refine LeO.ite ?_ ?_
      | refine LeO.bind ?_ (fun _ => ?_)
theorem aquiferref05_decimal.mono : ∀ a0 k, LeO (aquiferref05_decimal.f k a0) (aquiferref05_decimal.f (k + 1) a0) := by
  intro a0 k
  have ih0 := aquiferref05_decimal.mono_l k
  unfold aquiferref05_decimal.f
  repeat' first
      | (with_reducible exact ih0 _ _)
      | (with_reducible exact LeO.refl _)
      | (with_reducible exact LeO.none _)
      | (with_reducible refine LeO.ite ?_ ?_)
      | (with_reducible refine LeO.bind ?_ (fun _ => ?_))
      | exact ih0 _ _
      | exact LeO.none _
      | refine LeO.ite ?_ ?_
      | refine LeO.bind ?_ (fun _ => ?_)
set_option maxHeartbeats 8000000 in
set_option maxRecDepth 100000 in
theorem aquiferref05_decimal.calls (k : Nat) (a0 : Int) (r : ByteArray) (w : World) (h : aquiferref05_decimal.f k a0 = some r) :
    Calls Tryd.prog 80 #[.int .i64 a0] w fun e w' => e = .returned (.string r) ∧ Drawn0 w w' := by
  have H : (aquiferref05_decimal.l0 k a0 (⟨#[]⟩ : ByteArray)) = some r := h
  clear h
  have H' := Aside0.mk H
  clear H
  go_enter Tryd.func80, Tryd.ntmps80
  go_wp2
  go_loopg [0, 3] k (fun kq v0 v3 w' => ∃ (x0_1 : Int) (x3_1 : ByteArray), v0 = .int .i64 x0_1 ∧ v3 = .string x3_1 ∧ Aside0 (aquiferref05_decimal.l0 kq x0_1 x3_1 = some r) ∧ Aside0 (kq ≤ k) ∧ Drawn0 w w')
  case atStart => exact ⟨(a0), ((⟨#[]⟩ : ByteArray)), (by first | rfl | (simp; done) | (simp [*]; done)), (by first | rfl | (simp; done) | (simp [*]; done)), H', ⟨Nat.le_refl _⟩, by repeat (first | exact Drawn0.refl _ | apply Drawn0.step)⟩
  case round =>
    clear H'
    obtain ⟨x0_1, x3_1, rfl, rfl, HA, HK1, ⟨m1, rfl⟩⟩ := hrel
    cases gk with
    | zero => exact absurd HA.out (by simp [aquiferref05_decimal.l0])
    | succ k1 =>
      have H := HA.out
      clear HA
      simp only [aquiferref05_decimal.l0] at H
      by_cases c2 : x0_1 > 0
      · rw [if_pos c2] at H
        have c2b0 : decide (0 < x0_1) = true := decide_eq_true c2
        clear c2
        obtain ⟨ji3, hji3⟩ : ∃ j_ : Int, (Int.tmod x0_1 10) = j_ := ⟨_, rfl⟩
        replace H : (if 0 ≤ (ji3) then (if (ji3) ≤ (wrap64 ((ji3) + 1)) then (if (wrap64 ((ji3) + 1)) ≤ 10 then (if ((⟨#[48, 49, 50, 51, 52, 53, 54, 55, 56, 57]⟩ : ByteArray).extract ((ji3) : Int).toNat ((wrap64 ((ji3) + 1)) : Int).toNat).size + x3_1.size ≤ 9223372036854775807 then (aquiferref05_decimal.l0 k1 (wrap64 (Int.tdiv x0_1 10)) (((⟨#[48, 49, 50, 51, 52, 53, 54, 55, 56, 57]⟩ : ByteArray).extract ((ji3) : Int).toNat ((wrap64 ((ji3) + 1)) : Int).toNat) ++ x3_1)) else (none)) else (none)) else (none)) else (none)) = some r := by first | (rw [hji3] at H; exact H) | (simp only [hji3] at H ⊢; exact H)
        by_cases c4 : 0 ≤ (ji3)
        · rw [if_pos c4] at H
          have c4b0 := eq_true c4
          have c4b1 : decide (0 ≤ (ji3)) = true := decide_eq_true c4
          clear c4
          by_cases c5 : (ji3) ≤ (wrap64 ((ji3) + 1))
          · rw [if_pos c5] at H
            have c5b0 := eq_true c5
            have c5b1 : decide ((ji3) ≤ (wrap64 ((ji3) + 1))) = true := decide_eq_true c5
            by_cases c6 : (wrap64 ((ji3) + 1)) ≤ 10
            · rw [if_pos c6] at H
              have c6b0 := eq_true c6
              have c6b1 : decide ((wrap64 ((ji3) + 1)) ≤ 10) = true := decide_eq_true c6
              by_cases c7 : ((⟨#[48, 49, 50, 51, 52, 53, 54, 55, 56, 57]⟩ : ByteArray).extract ((ji3) : Int).toNat ((wrap64 ((ji3) + 1)) : Int).toNat).size + x3_1.size ≤ 9223372036854775807
              · rw [if_pos c7] at H
                have c7b0 := eq_true c7
                have c7b1 : decide (((⟨#[48, 49, 50, 51, 52, 53, 54, 55, 56, 57]⟩ : ByteArray).extract ((ji3) : Int).toNat ((wrap64 ((ji3) + 1)) : Int).toNat).size + x3_1.size ≤ 9223372036854775807) = true := decide_eq_true c7
                try have c7b2 : (9223372036854775807 < ((⟨#[48, 49, 50, 51, 52, 53, 54, 55, 56, 57]⟩ : ByteArray).extract ((ji3) : Int).toNat ((wrap64 ((ji3) + 1)) : Int).toNat).size + x3_1.size) = False := eq_false (Nat.not_lt.2 c7)
                have H' := Aside0.mk H
                clear H
                go_wp2
                go_roundg k1
                case measure => have := HK1.out; omega
                case rel => exact ⟨(wrap64 (Int.tdiv x0_1 10)), (((⟨#[48, 49, 50, 51, 52, 53, 54, 55, 56, 57]⟩ : ByteArray).extract ((ji3) : Int).toNat ((wrap64 ((ji3) + 1)) : Int).toNat) ++ x3_1), (by first | rfl | (simp; done) | (simp [*]; done)), (by first | rfl | (simp; done) | (simp only [← hji3] <;> (first | rfl | simp)) | (simp [*]; done)), H', ⟨by have := HK1.out; omega⟩, by repeat (first | exact Drawn0.refl _ | apply Drawn0.step)⟩
              · rw [if_neg c7] at H
                exact absurd H (by simp)
            · rw [if_neg c6] at H
              exact absurd H (by simp)
          · rw [if_neg c5] at H
            exact absurd H (by simp)
        · rw [if_neg c4] at H
          exact absurd H (by simp)
      · rw [if_neg c2] at H
        have c2b0 : decide (0 < x0_1) = false := decide_eq_false c2
        clear c2
        obtain rfl := Option.some.inj H
        go_wp2
        go_ret
        exact ⟨by first | rfl | (simp; done) | (simp [*]; done), by repeat (first | exact Drawn0.refl _ | apply Drawn0.step)⟩

end Go.Proofs.YtjllbkeobibnkaaDoor.Q

namespace Go.Proofs.YtjllbkeobibnkaaDoor.Q
open Go Go.Proofs Go.Shelf Go.RowKit Go.Proofs.YtjllbkeobibnkaaDoorK Go.Proofs.YtjllbkeobibnkaaDoorW.PrintWords Go.Proofs.YtjllbkeobibnkaaDoorW.PrintLast Go.Proofs.YtjllbkeobibnkaaDoorW.PrintMore
/-! ### The document's decimal -/
theorem refdec_all : ∀ n : Fin 1000, 1 ≤ n.val → aquiferref05_decimal.f 12 (n.val : Int) = some (decB n.val) := by decide +kernel
theorem refdec (n : Nat) (h1 : 1 ≤ n) (h2 : n ≤ 999) : aquiferref05_decimal.f 12 (n : Int) = some (decB n) := refdec_all ⟨n, by omega⟩ h1
end Go.Proofs.YtjllbkeobibnkaaDoor.Q

namespace Go.Proofs.YtjllbkeobibnkaaDoor.Q
open Go Go.Proofs Go.RowKit Go.Lib Go.Proofs.YtjllbkeobibnkaaDoorP Go.Proofs.YtjllbkeobibnkaaDoorK
/-! A file's path has a point. Plain: no program here. -/
theorem names_sub (l : List UInt8) : ∀ n ∈ names l, ∀ c ∈ n, c ∈ l := by
  induction l with
  | nil => intro n hn; simp [names] at hn; simp [hn]
  | cons c l ih =>
    intro n hn d hd
    unfold names at hn
    split at hn
    · rcases List.mem_cons.1 hn with e | hn
      · rw [e] at hd; simp at hd
      · exact List.mem_cons_of_mem _ (ih n hn d hd)
    · split at hn
      · rename_i he
        exact absurd he (names_ne l)
      · rename_i m ms he
        rcases List.mem_cons.1 hn with e | hn
        · rw [e] at hd
          rcases List.mem_cons.1 hd with e2 | hd
          · rw [e2]; exact List.mem_cons_self
          · exact List.mem_cons_of_mem _ (ih m (by rw [he]; exact List.mem_cons_self) d hd)
        · exact List.mem_cons_of_mem _ (ih n (by rw [he]; exact List.mem_cons_of_mem _ hn) d hd)
theorem kindL_point (n : List UInt8) (h : kindL n = 2) : 46 ∈ n := by
  apply Classical.byContradiction
  intro hn
  have hi := index_free 46 n hn
  have hc : cut n [46] = (n, [], false) := by unfold cut; rw [hi, if_neg (by decide)]
  unfold kindL at h
  rw [hc] at h
  split at h
  · cases h
  · split at h
    · cases h
    · cases h
theorem kindS_names (p : ByteArray) (h : kindS p = (2, 0)) : p.size ≤ 96 ∧ kindsL (names p.data.toList) 0 = some 2 ∧ (names p.data.toList).length ≤ 8 := by
  unfold kindS at h
  split at h
  · cases h
  · split at h
    · cases h
    · split at h
      · cases h
      · rename_i h1 h2 k hk
        split at h
        · cases h
        · injection h with h3
          subst h3
          exact ⟨by omega, hk, by omega⟩
theorem file_last (p : ByteArray) (h : kindS p = (2, 0)) : ∃ n, (names p.data.toList).getLast? = some n ∧ kindL n = 2 := by
  obtain ⟨_, h1, _⟩ := kindS_names p h
  have h2 := kindsL_last _ _ _ h1
  cases hg : (names p.data.toList).getLast? with
  | none => exact absurd (List.getLast?_eq_none_iff.1 hg) (names_ne _)
  | some n => rw [hg] at h2; exact ⟨n, rfl, h2.symm⟩
theorem file_point (p : ByteArray) (h : kindS p = (2, 0)) : 46 ∈ p.data.toList := by
  obtain ⟨n, h1, h2⟩ := file_last p h
  exact names_sub _ n (List.mem_of_getLast? h1) _ (kindL_point n h2)
theorem last_point (p : ByteArray) (h : kindS p = (2, 0)) : ∃ i : Nat, i < p.size ∧ lastIndexByte p 46 = (i : Int) ∧ ((p.data[i]!).toNat : Int) = 46 ∧ ∀ j, i < j → j < p.size → ((p.data[j]!).toNat : Int) ≠ 46 := by
  rcases lastIndexByte_spec p 46 with ⟨_, hn⟩ | hi
  · obtain ⟨j, hj, he⟩ := List.mem_iff_getElem.1 (file_point p h)
    exfalso
    have hj' : j < p.size := hj
    refine hn j hj' ?_
    rw [getElem!_pos p.data j hj]
    have : p.data[j] = 46 := by rw [← he]; rfl
    rw [this]; rfl
  · exact hi
end Go.Proofs.YtjllbkeobibnkaaDoor.Q
