/- Parts of the proof: HDo. -/
import Derived.Test.YtjllbkeobibnkaaDoorZO5
set_option linter.unusedVariables false
set_option linter.unusedSimpArgs false
namespace Go.Proofs.YtjllbkeobibnkaaDoor.Q
open Go Go.Proofs Go.Shelf Go.RowKit Go.Lib Go.Sort Go.Proofs.YtjllbkeobibnkaaDoorP Go.Proofs.YtjllbkeobibnkaaDoorK Go.Proofs.YtjllbkeobibnkaaDoorW.PrintWords Go.Proofs.YtjllbkeobibnkaaDoorW.PrintLast Go.Proofs.YtjllbkeobibnkaaDoorW.PrintMore
set_option linter.unusedSimpArgs false
set_option linter.unusedVariables false
attribute [local go_sem] A51_size A51_0 A51_1 A51_g0 A51_g1 A58_size A58_0 A58_1 A58_2 A58_g0 A58_g1 A58_g2 cell_held frozen_held
attribute [local go_sem] A65_size A65_0 A65_34 A65_68 A65_102 A65_103 A65_104 A65_105 A65_106 A65_g0 A65_g34 A65_g68 A65_g102 A65_g103 A65_g104 A65_g105 A65_g106 set_inA set_inL set_inR set_here set_there
attribute [local go_sem] zero51 zero58 zero65 A33 set65l0
attribute [local go_sem ↓ high] lvx_of
attribute [local go_sem] lv_sc lv24 lv33
attribute [local go_sem ↓ high] lv51 lv51s lv58 lv58a lv65 lv65a lv65l lv65r sc51 sc58 sc65 sc65a sc65l sc65r sc58a
instance : Go.Proofs.YtjllbkeobibnkaaDoorK.NotIn 65 (58 :: k58.E) := ⟨by decide⟩
/-- What Do gives back: every row is the old one, or a new one. -/
def NewRow (b : Nat) (w' : World) (x : Value) (l : List S58) (y : Value) (m : List S58) : Prop := (y = x ∧ m = l) ∨ k58.R 58 w' b (fun _ => True) y m
structure DoOut (b : Nat) (w' : World) (s : S24) (v : Array Value) (s' : S24) (v' : Array Value) : Prop where
  out : ∃ x0 x1 x2 y0 y1 y2, v = #[x0, x1, x2] ∧ v' = #[y0, y1, y2] ∧ NewRow b w' x0 s.f0 y0 s'.f0 ∧ NewRow b w' x1 s.f1 y1 s'.f1 ∧ NewRow b w' x2 s.f2 y2 s'.f2
theorem DoOut.of {b : Nat} {w' : World} {s s' : S24} {x0 x1 x2 y0 y1 y2 : Value} (h0 : NewRow b w' x0 s.f0 y0 s'.f0) (h1 : NewRow b w' x1 s.f1 y1 s'.f1) (h2 : NewRow b w' x2 s.f2 y2 s'.f2) : DoOut b w' s #[x0, x1, x2] s' #[y0, y1, y2] :=
  ⟨⟨x0, x1, x2, y0, y1, y2, rfl, rfl, h0, h1, h2⟩⟩
theorem NewRow.row {b : Nat} {w' : World} {x y : Value} {l m : List S58} (h : NewRow b w' x l y m) (hx : Row w' x l) : Row w' y m := by
  rcases h with ⟨rfl, rfl⟩ | h
  · exact hx
  · exact Row.ofR h
theorem DoOut.side {b : Nat} {w' : World} {s s' : S24} {v v' : Array Value} (h : DoOut b w' s v s' v') (hs : SideIn w' s v) : SideIn w' s' v' := by
  obtain ⟨x0, x1, x2, y0, y1, y2, rfl, rfl, h0, h1, h2⟩ := h.out
  obtain ⟨A, c, B, d, C, e, hv, l1, l2, l3, k1, k2, k3⟩ := hs.out
  injection hv with hv
  injection hv with e0 hv
  injection hv with e1 hv
  injection hv with e2 hv
  subst e0 e1 e2
  exact SideIn.ofRow (h0.row (Row.ofC k1 l1)) (h1.row (Row.ofC k2 l2)) (h2.row (Row.ofC k3 l3))
def do12.T12 : Bool × List (List Nat × List Nat) := (true, [([], []), ([0], [0]), ([], []), ([], []), ([3], [3]), ([1, 2, 4], [1, 2, 4]), ([], []), ([6], [6]), ([], []), ([], []), ([9], [9]), ([7, 8, 10, 5], [7, 8, 10]), ([], []), ([12], [12]), ([], []), ([], []), ([15], [15]), ([13, 14, 16, 11], [13, 14, 16]), ([5, 11, 17], [5, 11, 17]), ([18, 17, 0, 1, 2, 3, 4, 5, 6, 7, 8, 9, 10, 11, 12, 13, 14, 15, 16, 17, 18], [18]), ([19, 0, 1, 2, 3, 4, 5, 6, 7, 8, 9, 10, 11, 12, 13, 14, 15, 16, 17, 18, 19], [])])
def do12.B12 : List Nat := [0, 1, 0, 0, 8, 31, 0, 64, 0, 0, 512, 2047, 0, 4096, 0, 0, 32768, 131071, 262143, 524287, 1048575]
theorem do12.tab12 : rtab .any (opsOf Tryd.f14 12) = do12.T12 := by kernel_rfl
theorem do12.bits12 : waitsOk do12.T12.2 do12.B12 = true := by kernel_rfl
def do14.T14 : Bool × List (List Nat × List Nat) := (true, [([], []), ([0], [0]), ([], []), ([1, 2], [1, 2]), ([], []), ([4], [4]), ([], []), ([6], [6]), ([], []), ([7, 8, 3], [7, 8]), ([3, 5, 9], [3, 5, 9]), ([10, 9, 0, 1, 2, 3, 4, 5, 6, 7, 8, 9, 10], [10]), ([11, 0, 1, 2, 3, 4, 5, 6, 7, 8, 9, 10, 11], [])])
def do14.B14 : List Nat := [0, 1, 0, 7, 0, 16, 0, 64, 0, 463, 1023, 2047, 4095]
theorem do14.tab14 : rtab .any (opsOf Tryd.f14 14) = do14.T14 := by kernel_rfl
theorem do14.bits14 : waitsOk do14.T14.2 do14.B14 = true := by kernel_rfl
def do16.T16 : Bool × List (List Nat × List Nat) := (true, [([], []), ([0], [0]), ([], []), ([], []), ([3], [3]), ([1, 2, 4], [1, 2, 4]), ([], []), ([6], [6]), ([], []), ([], []), ([9], [9]), ([7, 8, 10, 5], [7, 8, 10]), ([], []), ([12], [12]), ([5, 11, 13], [5, 11, 13]), ([14, 11, 0, 1, 2, 3, 4, 5, 6, 7, 8, 9, 10, 11, 12, 13, 14], [14]), ([15, 0, 1, 2, 3, 4, 5, 6, 7, 8, 9, 10, 11, 12, 13, 14, 15], [])])
def do16.B16 : List Nat := [0, 1, 0, 0, 8, 31, 0, 64, 0, 0, 512, 2047, 0, 4096, 16383, 32767, 65535]
theorem do16.tab16 : rtab .any (opsOf Tryd.f14 16) = do16.T16 := by kernel_rfl
theorem do16.bits16 : waitsOk do16.T16.2 do16.B16 = true := by kernel_rfl
def do18.T18 : Bool × List (List Nat × List Nat) := (true, [([], []), ([0], [0]), ([], []), ([1, 2], [1, 2]), ([], []), ([4], [4]), ([], []), ([5, 6, 3], [5, 6]), ([], []), ([8], [8]), ([3, 7, 9], [3, 7, 9]), ([10, 7, 0, 1, 2, 3, 4, 5, 6, 7, 8, 9, 10], [10]), ([11, 0, 1, 2, 3, 4, 5, 6, 7, 8, 9, 10, 11], [])])
def do18.B18 : List Nat := [0, 1, 0, 7, 0, 16, 0, 127, 0, 256, 1023, 2047, 4095]
theorem do18.tab18 : rtab .any (opsOf Tryd.f14 18) = do18.T18 := by kernel_rfl
theorem do18.bits18 : waitsOk do18.T18.2 do18.B18 = true := by kernel_rfl
def do21.T21 : Bool × List (List Nat × List Nat) := (true, [([], []), ([0], [0]), ([], []), ([], []), ([3], [3]), ([1, 2, 4], [1, 2, 4]), ([], []), ([6], [6]), ([], []), ([], []), ([9], [9]), ([7, 8, 10, 5], [7, 8, 10]), ([], []), ([12], [12]), ([5, 11, 13], [5, 11, 13]), ([14, 11, 0, 1, 2, 3, 4, 5, 6, 7, 8, 9, 10, 11, 12, 13, 14], [14]), ([15, 0, 1, 2, 3, 4, 5, 6, 7, 8, 9, 10, 11, 12, 13, 14, 15], [])])
def do21.B21 : List Nat := [0, 1, 0, 0, 8, 31, 0, 64, 0, 0, 512, 2047, 0, 4096, 16383, 32767, 65535]
theorem do21.tab21 : rtab .any (opsOf Tryd.f14 21) = do21.T21 := by kernel_rfl
theorem do21.bits21 : waitsOk do21.T21.2 do21.B21 = true := by kernel_rfl
def do23.T23 : Bool × List (List Nat × List Nat) := (true, [([], []), ([0], [0]), ([], []), ([2], [2]), ([], []), ([4], [4]), ([1, 3, 5], [1, 3, 5]), ([], []), ([], []), ([8], [8]), ([6, 7, 9, 6], [6, 7, 9]), ([10, 10, 0, 1, 2, 3, 4, 5, 6, 7, 8, 9, 10], [10])])
def do23.B23 : List Nat := [0, 1, 0, 4, 0, 16, 63, 0, 0, 256, 1023, 2047]
theorem do23.tab23 : rtab .any (opsOf Tryd.f14 23) = do23.T23 := by kernel_rfl
theorem do23.bits23 : waitsOk do23.T23.2 do23.B23 = true := by kernel_rfl
def do24.T24 : Bool × List (List Nat × List Nat) := (true, [([], []), ([0], [0]), ([], []), ([], []), ([3], [3]), ([1, 2, 4], [1, 2, 4]), ([], []), ([], []), ([7], [7]), ([5, 6, 8], [5, 6, 8]), ([9, 5, 0, 1, 2, 3, 4, 5, 6, 7, 8, 9], [9]), ([10, 0, 1, 2, 3, 4, 5, 6, 7, 8, 9, 10], [])])
def do24.B24 : List Nat := [0, 1, 0, 0, 8, 31, 0, 0, 128, 511, 1023, 2047]
theorem do24.tab24 : rtab .any (opsOf Tryd.f14 24) = do24.T24 := by kernel_rfl
theorem do24.bits24 : waitsOk do24.T24.2 do24.B24 = true := by kernel_rfl
def do25.T25 : Bool × List (List Nat × List Nat) := (true, [([], []), ([0], [0]), ([], []), ([1, 2], [1, 2]), ([], []), ([4], [4]), ([], []), ([6], [6]), ([3, 5, 7], [3, 5, 7]), ([8, 3, 0, 1, 2, 3, 4, 5, 6, 7, 8], [8]), ([9, 0, 1, 2, 3, 4, 5, 6, 7, 8, 9], [])])
def do25.B25 : List Nat := [0, 1, 0, 7, 0, 16, 0, 64, 255, 511, 1023]
theorem do25.tab25 : rtab .any (opsOf Tryd.f14 25) = do25.T25 := by kernel_rfl
theorem do25.bits25 : waitsOk do25.T25.2 do25.B25 = true := by kernel_rfl
set_option maxRecDepth 100000 in
set_option maxHeartbeats 8000000 in
theorem do_out (w : World) (s : S24) (v : Array Value) (x : S33) (ver : Int) (hs : SideIn w s v) (ht : tinyS s = true) (hx2 : x.f2.size ≤ 32000) (hx3 : x.f3.size ≤ 32000) :
    Calls Tryd.prog 14 #[.agg v, .agg (A33 x), .int .i64 ver] w fun e w' => ∃ v', e = .returned (.tuple #[.agg v', .int .i64 (doS s x ver).2]) ∧ DoOut w.heap.size w' s v (doS s x ver).1 v' ∧ Below w.heap.size w w' := by
  have HK := Aside0.mk (fun W (hb : Below w.heap.size w W) => Check_any W s v (hs.below hb) (tinyS_ok ht))
  have HA := Aside0.mk (fun W (hb : Below w.heap.size w W) => at_any W s v x.f2 (hs.below hb) (okS_short (tinyS_ok ht)))
  have HR := Aside0.mk (fun W y (hb : Below w.heap.size w W) => ready_any W s v x y (hs.below hb) (tinyS_ok ht) (by omega))
  have hk := @ready_kind s x (atS s x.f2)
  have h02 := checkS_two s
  have hok : checkS s = 0 → OkS s := (check_iff s).1
  obtain ⟨A, c, B, d, C, e, rfl, l1, l2, l3, h1, h2, h3⟩ := hs.out
  obtain ⟨t1, t2, t3⟩ := tinyS_open ht
  unfold doS
  generalize checkS s = ck at HK h02 hok ⊢
  generalize atS s x.f2 = y at HA hk ⊢
  replace HR := Aside0.mk (fun W hb => HR.out W y hb)
  generalize readyS s x y = rd at HR hk ⊢
  rcases h02 with rfl | rfl
  rotate_left
  · rw [if_neg (by decide)]
    obtain ⟨la, lb, lc⟩ := s
    dsimp only at *
    clear hs ht h1 h2 h3 t1 t2 t3 hok hk
    generalize la.length = n0 at *
    generalize lb.length = n1 at *
    generalize lc.length = n2 at *
    go_enter Tryd.func14, Tryd.ntmps14
    go_wp2_with fail
    refine (HK.out _ (bel _ _)).mono ?_
    rintro r1 w1 ⟨rfl, hb⟩
    have p1 := prev_call hb
    clear hb
    go_wp2_with fail
    refine bodyPost_ret (results_row_tmp rfl _ _ (.int .i64 2) held rfl rfl Tryd.underlying24 rfl (by exact info24)) rfl ?_
    exact ⟨_, rfl, DoOut.of (.inr (Kd.R_nil _ _ _ _ _)) (.inr (Kd.R_nil _ _ _ _ _)) (.inr (Kd.R_nil _ _ _ _ _)), bel _ _⟩
  have hos := hok rfl
  rw [if_pos rfl]
  obtain ⟨k, u, p, q⟩ := x
  obtain ⟨la, lb, lc⟩ := s
  dsimp only at *
  have f1 := (fewK_open t1).1
  have f2 := (fewK_open t2).1
  have f3 := (fewK_open t3).1
  have HW0 := Aside0.mk (fun W (hb : Below w.heap.size w W) a => with_any W A c la p a (Kd.C_below h1 hb) l1 (fewK_short t1) (by omega) (by omega) hos.a.ris)
  have HW1 := Aside0.mk (fun W (hb : Below w.heap.size w W) a => with_any W B d lb p a (Kd.C_below h2 hb) l2 (fewK_short t2) (by omega) (by omega) hos.l.ris)
  have HW2 := Aside0.mk (fun W (hb : Below w.heap.size w W) a => with_any W C e lc p a (Kd.C_below h3 hb) l3 (fewK_short t3) (by omega) (by omega) hos.r.ris)
  have HT := Aside0.mk (fun W (hb : Below w.heap.size w W) a => with_any W B d lb q a (Kd.C_below h2 hb) l2 (fewK_short t2) (by omega) (by omega) hos.l.ris)
  have HTT := Aside0.mk (fun W A' c' a b (hC : k58.C W A' (withS lb q a).length (withS lb q a)) hc => with_any W A' c' (withS lb q a) p b hC hc (withS_short t2 hx3 a).1 (withS_short t2 hx3 a).2 (by omega) (withS_ris hos.l.ris q a))
  have HO0 := Aside0.mk (fun W (hb : Below w.heap.size w W) => without_any W A c la p (Kd.C_below h1 hb) (by omega))
  have HO1 := Aside0.mk (fun W (hb : Below w.heap.size w W) => without_any W B d lb p (Kd.C_below h2 hb) (by omega))
  have HO2 := Aside0.mk (fun W (hb : Below w.heap.size w W) => without_any W C e lc p (Kd.C_below h3 hb) (by omega))
  have HC0 := Aside0.mk h1
  have HC1 := Aside0.mk h2
  have HC2 := Aside0.mk h3
  have HKI := Aside0.mk hk
  obtain ⟨res, hres⟩ : ∃ r, doT ⟨la, lb, lc⟩ ⟨k, u, p, q⟩ ver y rd = r := ⟨_, rfl⟩
  rw [hres]
  have HRES := Aside0.mk hres
  clear hres
  clear hs ht h1 h2 h3 t1 t2 t3 hok hk hos f1 f2 f3 hx2 hx3
  go_enter Tryd.func14, Tryd.ntmps14
  go_wp2_with fail
  refine (HK.out _ (bel _ _)).mono ?_
  rintro r1 w1 ⟨rfl, hb⟩
  have p1 := prev_call hb
  clear hb
  go_wp2_with fail
  refine (HA.out _ (bel _ _)).mono ?_
  rintro r2 w2 ⟨rfl, hb⟩
  have p2 := prev_call hb
  have s2 : w.heap.size + 2 < w2.heap.size := held_lt (W := w2) (g := w.heap.size + 2)
  clear hb
  have a0 : Apart w.heap.size (.row w2.heap.size) := apart_ne (by omega)
  have a1 : Apart (w.heap.size + 1) (.row w2.heap.size) := apart_ne (by omega)
  have a2 : Apart (w.heap.size + 2) (.row w2.heap.size) := apart_ne (by omega)
  have a3 : Apart w2.heap.size (.row (w.heap.size + 2)) := apart_ne (by omega)
  have a4 : Apart w.heap.size (.row (w.heap.size + 2)) := apart_ne (by omega)
  have a5 : Apart (w.heap.size + 1) (.row (w.heap.size + 2)) := apart_ne (by omega)
  have o0 : OwnB w.heap.size (.row w2.heap.size) := own_row (by omega)
  go_wp2_with fail
  refine (HR.out _ (bel _ _)).mono ?_
  rintro r3 w3 ⟨rfl, hb⟩
  have p3 := prev_call hb
  clear hb
  cases rd with
  | false =>
    have hr : (z24, (9 : Int)) = res := HRES.out
    subst hr
    go_wp2_with fail
    refine bodyPost_ret (results_row_tmp rfl _ _ (.int .i64 9) held rfl rfl Tryd.underlying24 rfl (by exact info24)) rfl ?_
    exact ⟨_, rfl, DoOut.of (.inr (Kd.R_nil _ _ _ _ _)) (.inr (Kd.R_nil _ _ _ _ _)) (.inr (Kd.R_nil _ _ _ _ _)), bel _ _⟩
  | true =>
    have hki := HKI.out rfl
    have hr := HRES.out
    unfold doT at hr
    rw [if_pos rfl] at hr
    dsimp only at hr
    clear HKI
    rcases hki with rfl | rfl | rfl | rfl | rfl | rfl | rfl
    · by_cases hv : ver < 1 ∨ 1099511627776 < ver
      · rw [if_pos ⟨rfl, hv⟩] at hr
        subst hr
        rcases hv with hv | hv
        · go_wp2_with fail
          refine bodyPost_ret (results_row_tmp rfl _ _ (.int .i64 2) held rfl rfl Tryd.underlying24 rfl (by exact info24)) rfl ?_
          exact ⟨_, rfl, DoOut.of (.inr (Kd.R_nil _ _ _ _ _)) (.inr (Kd.R_nil _ _ _ _ _)) (.inr (Kd.R_nil _ _ _ _ _)), bel _ _⟩
        · have hv2 : ¬ ver < 1 := by omega
          go_wp2_with fail
          refine bodyPost_ret (results_row_tmp rfl _ _ (.int .i64 2) held rfl rfl Tryd.underlying24 rfl (by exact info24)) rfl ?_
          exact ⟨_, rfl, DoOut.of (.inr (Kd.R_nil _ _ _ _ _)) (.inr (Kd.R_nil _ _ _ _ _)) (.inr (Kd.R_nil _ _ _ _ _)), bel _ _⟩
      · rw [if_neg (fun h => hv h.2)] at hr
        subst hr
        have hv1 : ¬ ver < 1 := fun h => hv (.inl h)
        have hv2 : ¬ 1099511627776 < ver := fun h => hv (.inr h)
        clear hv
        go_wp2_with fail
        refine start_ (n := 21) (S := fun w' => w'.heap[w.heap.size]? = some (.cells #[.slice A la.length c, .slice B lb.length d, .slice C lc.length e] 24 (0, 0)) ∧ w'.heap[w.heap.size + 1]? = some (.cells #[.int .i64 1, .int .i64 u, .string p, .string q] 33 (0, 0)) ∧ w'.heap[w2.heap.size]? = some (.cells (A65 { y with l := { y.l with f0 := ver } }) 65 (0, 0))) (ds := [19]) #[false, false, false, false, false, false, false, false, false, false, false, false, false, false, false, false, false, false, false, false, false] (by kernel_rfl) rfl rfl ⟨held, held, held⟩ (fun hHeld => ?_); refine with_tabW do12.tab12 do12.bits12 (fun HT_ HW_ => ?_)
        refine pure_ (i := 0) (N := some 47) (v := ?_) (a' := ?_) #[true, false, false, false, false, false, false, false, false, false, false, false, false, false, false, false, false, false, false, false, false] rfl rfl (any_of HT_.out (by kernel_rfl)) (fun _ _ _ h => h) (Or.inl ⟨by rfl, ?_⟩) ?_ ?_
        rotate_left
        · intro w'
          go_simp
          with_reducible rfl
        rotate_left
        · simp only [Act.put, List.setIfInBounds_toArray, List.set_cons_zero, List.set_cons_succ, i64_w, i32_w]
          rfl
        refine pure_ (i := 2) (N := some 49) (v := ?_) (a' := ?_) #[true, false, true, false, false, false, false, false, false, false, false, false, false, false, false, false, false, false, false, false, false] rfl rfl (any_of HT_.out (by kernel_rfl)) (fun _ _ _ h => h) (Or.inl ⟨by rfl, ?_⟩) ?_ ?_
        rotate_left
        · intro w'
          go_simp
          with_reducible rfl
        rotate_left
        · simp only [Act.put, List.setIfInBounds_toArray, List.set_cons_zero, List.set_cons_succ, i64_w, i32_w]
          rfl
        refine pure_ (i := 3) (N := some 50) (v := ?_) (a' := ?_) #[true, false, true, true, false, false, false, false, false, false, false, false, false, false, false, false, false, false, false, false, false] rfl rfl (any_of HT_.out (by kernel_rfl)) (fun _ _ _ h => h) (Or.inl ⟨by rfl, ?_⟩) ?_ ?_
        rotate_left
        · intro w'
          go_simp
          with_reducible rfl
        rotate_left
        · simp only [Act.put, List.setIfInBounds_toArray, List.set_cons_zero, List.set_cons_succ, i64_w, i32_w]
          rfl
        refine pure_ (i := 6) (N := some 53) (v := ?_) (a' := ?_) #[true, false, true, true, false, false, true, false, false, false, false, false, false, false, false, false, false, false, false, false, false] rfl rfl (any_of HT_.out (by kernel_rfl)) (fun _ _ _ h => h) (Or.inl ⟨by rfl, ?_⟩) ?_ ?_
        rotate_left
        · intro w'
          go_simp
          with_reducible rfl
        rotate_left
        · simp only [Act.put, List.setIfInBounds_toArray, List.set_cons_zero, List.set_cons_succ, i64_w, i32_w]
          rfl
        refine pure_ (i := 8) (N := some 55) (v := ?_) (a' := ?_) #[true, false, true, true, false, false, true, false, true, false, false, false, false, false, false, false, false, false, false, false, false] rfl rfl (any_of HT_.out (by kernel_rfl)) (fun _ _ _ h => h) (Or.inl ⟨by rfl, ?_⟩) ?_ ?_
        rotate_left
        · intro w'
          go_simp
          with_reducible rfl
        rotate_left
        · simp only [Act.put, List.setIfInBounds_toArray, List.set_cons_zero, List.set_cons_succ, i64_w, i32_w]
          rfl
        refine pure_ (i := 9) (N := some 56) (v := ?_) (a' := ?_) #[true, false, true, true, false, false, true, false, true, true, false, false, false, false, false, false, false, false, false, false, false] rfl rfl (any_of HT_.out (by kernel_rfl)) (fun _ _ _ h => h) (Or.inl ⟨by rfl, ?_⟩) ?_ ?_
        rotate_left
        · intro w'
          go_simp
          with_reducible rfl
        rotate_left
        · simp only [Act.put, List.setIfInBounds_toArray, List.set_cons_zero, List.set_cons_succ, i64_w, i32_w]
          rfl
        refine pure_ (i := 12) (N := some 59) (v := ?_) (a' := ?_) #[true, false, true, true, false, false, true, false, true, true, false, false, true, false, false, false, false, false, false, false, false] rfl rfl (any_of HT_.out (by kernel_rfl)) (fun _ _ _ h => h) (Or.inl ⟨by rfl, ?_⟩) ?_ ?_
        rotate_left
        · intro w'
          go_simp
          with_reducible rfl
        rotate_left
        · simp only [Act.put, List.setIfInBounds_toArray, List.set_cons_zero, List.set_cons_succ, i64_w, i32_w]
          rfl
        refine pure_ (i := 14) (N := some 61) (v := ?_) (a' := ?_) #[true, false, true, true, false, false, true, false, true, true, false, false, true, false, true, false, false, false, false, false, false] rfl rfl (any_of HT_.out (by kernel_rfl)) (fun _ _ _ h => h) (Or.inl ⟨by rfl, ?_⟩) ?_ ?_
        rotate_left
        · intro w'
          go_simp
          with_reducible rfl
        rotate_left
        · simp only [Act.put, List.setIfInBounds_toArray, List.set_cons_zero, List.set_cons_succ, i64_w, i32_w]
          rfl
        refine pure_ (i := 15) (N := some 62) (v := ?_) (a' := ?_) #[true, false, true, true, false, false, true, false, true, true, false, false, true, false, true, true, false, false, false, false, false] rfl rfl (any_of HT_.out (by kernel_rfl)) (fun _ _ _ h => h) (Or.inl ⟨by rfl, ?_⟩) ?_ ?_
        rotate_left
        · intro w'
          go_simp
          with_reducible rfl
        rotate_left
        · simp only [Act.put, List.setIfInBounds_toArray, List.set_cons_zero, List.set_cons_succ, i64_w, i32_w]
          rfl
        refine take_ (i := 1) (N := some 48) (v := ?_) (a' := ?_) #[true, true, true, true, false, false, true, false, true, true, false, false, true, false, true, true, false, false, false, false, false] rfl rfl (take_ofW HT_.out HW_.out (by kernel_rfl)) (fun _ _ _ h => h) (Or.inl ⟨by rfl, ?_⟩) hHeld ?_ ?_
        rotate_left
        · rintro w' ⟨s0, s1, s2⟩
          have i0 : Go.Proofs.YtjllbkeobibnkaaDoorK.Holds w' w.heap.size (.cells #[.slice A la.length c, .slice B lb.length d, .slice C lc.length e] 24) := ⟨s0⟩
          have i1 : Go.Proofs.YtjllbkeobibnkaaDoorK.Holds w' (w.heap.size + 1) (.cells #[.int .i64 1, .int .i64 u, .string p, .string q] 33) := ⟨s1⟩
          have i2 : Go.Proofs.YtjllbkeobibnkaaDoorK.Holds w' w2.heap.size (.cells (A65 { y with l := { y.l with f0 := ver } }) 65) := ⟨s2⟩
          go_simp
          with_reducible rfl
        rotate_left
        · simp only [Act.put, List.setIfInBounds_toArray, List.set_cons_zero, List.set_cons_succ, i64_w, i32_w]
          rfl
        refine take_ (i := 4) (N := some 51) (v := ?_) (a' := ?_) #[true, true, true, true, true, false, true, false, true, true, false, false, true, false, true, true, false, false, false, false, false] rfl rfl (take_ofW HT_.out HW_.out (by kernel_rfl)) (fun _ _ _ h => h) (Or.inl ⟨by rfl, ?_⟩) hHeld ?_ ?_
        rotate_left
        · rintro w' ⟨s0, s1, s2⟩
          have i0 : Go.Proofs.YtjllbkeobibnkaaDoorK.Holds w' w.heap.size (.cells #[.slice A la.length c, .slice B lb.length d, .slice C lc.length e] 24) := ⟨s0⟩
          have i1 : Go.Proofs.YtjllbkeobibnkaaDoorK.Holds w' (w.heap.size + 1) (.cells #[.int .i64 1, .int .i64 u, .string p, .string q] 33) := ⟨s1⟩
          have i2 : Go.Proofs.YtjllbkeobibnkaaDoorK.Holds w' w2.heap.size (.cells (A65 { y with l := { y.l with f0 := ver } }) 65) := ⟨s2⟩
          go_simp
          with_reducible rfl
        rotate_left
        · simp only [Act.put, List.setIfInBounds_toArray, List.set_cons_zero, List.set_cons_succ, i64_w, i32_w]
          rfl
        refine take_ (i := 7) (N := some 54) (v := ?_) (a' := ?_) #[true, true, true, true, true, false, true, true, true, true, false, false, true, false, true, true, false, false, false, false, false] rfl rfl (take_ofW HT_.out HW_.out (by kernel_rfl)) (fun _ _ _ h => h) (Or.inl ⟨by rfl, ?_⟩) hHeld ?_ ?_
        rotate_left
        · rintro w' ⟨s0, s1, s2⟩
          have i0 : Go.Proofs.YtjllbkeobibnkaaDoorK.Holds w' w.heap.size (.cells #[.slice A la.length c, .slice B lb.length d, .slice C lc.length e] 24) := ⟨s0⟩
          have i1 : Go.Proofs.YtjllbkeobibnkaaDoorK.Holds w' (w.heap.size + 1) (.cells #[.int .i64 1, .int .i64 u, .string p, .string q] 33) := ⟨s1⟩
          have i2 : Go.Proofs.YtjllbkeobibnkaaDoorK.Holds w' w2.heap.size (.cells (A65 { y with l := { y.l with f0 := ver } }) 65) := ⟨s2⟩
          go_simp
          with_reducible rfl
        rotate_left
        · simp only [Act.put, List.setIfInBounds_toArray, List.set_cons_zero, List.set_cons_succ, i64_w, i32_w]
          rfl
        refine take_ (i := 10) (N := some 57) (v := ?_) (a' := ?_) #[true, true, true, true, true, false, true, true, true, true, true, false, true, false, true, true, false, false, false, false, false] rfl rfl (take_ofW HT_.out HW_.out (by kernel_rfl)) (fun _ _ _ h => h) (Or.inl ⟨by rfl, ?_⟩) hHeld ?_ ?_
        rotate_left
        · rintro w' ⟨s0, s1, s2⟩
          have i0 : Go.Proofs.YtjllbkeobibnkaaDoorK.Holds w' w.heap.size (.cells #[.slice A la.length c, .slice B lb.length d, .slice C lc.length e] 24) := ⟨s0⟩
          have i1 : Go.Proofs.YtjllbkeobibnkaaDoorK.Holds w' (w.heap.size + 1) (.cells #[.int .i64 1, .int .i64 u, .string p, .string q] 33) := ⟨s1⟩
          have i2 : Go.Proofs.YtjllbkeobibnkaaDoorK.Holds w' w2.heap.size (.cells (A65 { y with l := { y.l with f0 := ver } }) 65) := ⟨s2⟩
          go_simp
          with_reducible rfl
        rotate_left
        · simp only [Act.put, List.setIfInBounds_toArray, List.set_cons_zero, List.set_cons_succ, i64_w, i32_w]
          rfl
        refine take_ (i := 13) (N := some 60) (v := ?_) (a' := ?_) #[true, true, true, true, true, false, true, true, true, true, true, false, true, true, true, true, false, false, false, false, false] rfl rfl (take_ofW HT_.out HW_.out (by kernel_rfl)) (fun _ _ _ h => h) (Or.inl ⟨by rfl, ?_⟩) hHeld ?_ ?_
        rotate_left
        · rintro w' ⟨s0, s1, s2⟩
          have i0 : Go.Proofs.YtjllbkeobibnkaaDoorK.Holds w' w.heap.size (.cells #[.slice A la.length c, .slice B lb.length d, .slice C lc.length e] 24) := ⟨s0⟩
          have i1 : Go.Proofs.YtjllbkeobibnkaaDoorK.Holds w' (w.heap.size + 1) (.cells #[.int .i64 1, .int .i64 u, .string p, .string q] 33) := ⟨s1⟩
          have i2 : Go.Proofs.YtjllbkeobibnkaaDoorK.Holds w' w2.heap.size (.cells (A65 { y with l := { y.l with f0 := ver } }) 65) := ⟨s2⟩
          go_simp
          with_reducible rfl
        rotate_left
        · simp only [Act.put, List.setIfInBounds_toArray, List.set_cons_zero, List.set_cons_succ, i64_w, i32_w]
          rfl
        refine take_ (i := 16) (N := some 63) (v := ?_) (a' := ?_) #[true, true, true, true, true, false, true, true, true, true, true, false, true, true, true, true, true, false, false, false, false] rfl rfl (take_ofW HT_.out HW_.out (by kernel_rfl)) (fun _ _ _ h => h) (Or.inl ⟨by rfl, ?_⟩) hHeld ?_ ?_
        rotate_left
        · rintro w' ⟨s0, s1, s2⟩
          have i0 : Go.Proofs.YtjllbkeobibnkaaDoorK.Holds w' w.heap.size (.cells #[.slice A la.length c, .slice B lb.length d, .slice C lc.length e] 24) := ⟨s0⟩
          have i1 : Go.Proofs.YtjllbkeobibnkaaDoorK.Holds w' (w.heap.size + 1) (.cells #[.int .i64 1, .int .i64 u, .string p, .string q] 33) := ⟨s1⟩
          have i2 : Go.Proofs.YtjllbkeobibnkaaDoorK.Holds w' w2.heap.size (.cells (A65 { y with l := { y.l with f0 := ver } }) 65) := ⟨s2⟩
          go_simp
          with_reducible rfl
        rotate_left
        · simp only [Act.put, List.setIfInBounds_toArray, List.set_cons_zero, List.set_cons_succ, i64_w, i32_w]
          rfl
        refine one_ (i := 5) (N := some 52) #[true, true, true, true, true, true, true, true, true, true, true, false, true, true, true, true, true, false, false, false, false] rfl rfl (one_of HT_.out (by kernel_rfl)) (by decide) (fun K hK => ?_)
        refine goes_ Tryd.func35 (by kernel_rfl) rfl #[.slice A la.length c, .string p, .agg (A51 { y.l with f0 := ver })] (by rfl) rfl rfl (by (try simp only [List.map_toArray, List.map_cons, List.map_nil]); first | done | rfl) ?_
        refine (HW0.out _ (bel _ _) ({ y.l with f0 := ver })).mono ?_
        rintro e4 w4 ⟨v4, rfl, hv, hb⟩
        have p4 := prev_call hb
        obtain ⟨X4, k4, rfl⟩ := Kd.R_slice hv
        have HV4 := Aside0.mk hv
        clear hb hv
        refine ⟨_, rfl, ?_⟩
        refine hK.out _ _ ⟨held, held, held⟩ (fun hHeld => ?_)
        clear hK K
        refine norm_ (a' := ?_) ?_ ?_
        rotate_left
        · show Act.put _ (some 52) _ = _
          simp only [Act.put, List.setIfInBounds_toArray, List.set_cons_zero, List.set_cons_succ, i64_w, i32_w]
          rfl
        refine one_ (i := 11) (N := some 58) #[true, true, true, true, true, true, true, true, true, true, true, true, true, true, true, true, true, false, false, false, false] rfl rfl (one_of HT_.out (by kernel_rfl)) (by decide) (fun K hK => ?_)
        refine goes_ Tryd.func35 (by kernel_rfl) rfl #[.slice B lb.length d, .string p, .agg (A51 { y.l with f0 := ver })] (by rfl) rfl rfl (by (try simp only [List.map_toArray, List.map_cons, List.map_nil]); first | done | rfl) ?_
        refine (HW1.out _ (bel _ _) ({ y.l with f0 := ver })).mono ?_
        rintro e5 w5 ⟨v5, rfl, hv, hb⟩
        have p5 := prev_call hb
        obtain ⟨X5, k5, rfl⟩ := Kd.R_slice hv
        have HV5 := Aside0.mk hv
        clear hb hv
        refine ⟨_, rfl, ?_⟩
        refine hK.out _ _ ⟨held, held, held⟩ (fun hHeld => ?_)
        clear hK K
        refine norm_ (a' := ?_) ?_ ?_
        rotate_left
        · show Act.put _ (some 58) _ = _
          simp only [Act.put, List.setIfInBounds_toArray, List.set_cons_zero, List.set_cons_succ, i64_w, i32_w]
          rfl
        refine one_ (i := 17) (N := some 64) #[true, true, true, true, true, true, true, true, true, true, true, true, true, true, true, true, true, true, false, false, false] rfl rfl (one_of HT_.out (by kernel_rfl)) (by decide) (fun K hK => ?_)
        refine goes_ Tryd.func35 (by kernel_rfl) rfl #[.slice C lc.length e, .string p, .agg (A51 { y.l with f0 := ver })] (by rfl) rfl rfl (by (try simp only [List.map_toArray, List.map_cons, List.map_nil]); first | done | rfl) ?_
        refine (HW2.out _ (bel _ _) ({ y.l with f0 := ver })).mono ?_
        rintro e6 w6 ⟨v6, rfl, hv, hb⟩
        have p6 := prev_call hb
        obtain ⟨X6, k6, rfl⟩ := Kd.R_slice hv
        have HV6 := Aside0.mk hv
        clear hb hv
        refine ⟨_, rfl, ?_⟩
        refine hK.out _ _ ⟨held, held, held⟩ (fun hHeld => ?_)
        clear hK K
        refine norm_ (a' := ?_) ?_ ?_
        rotate_left
        · show Act.put _ (some 64) _ = _
          simp only [Act.put, List.setIfInBounds_toArray, List.set_cons_zero, List.set_cons_succ, i64_w, i32_w]
          rfl
        refine pure_ (i := 18) (N := some 65) (v := ?_) (a' := ?_) #[true, true, true, true, true, true, true, true, true, true, true, true, true, true, true, true, true, true, true, false, false] rfl rfl (any_of HT_.out (by kernel_rfl)) (fun _ _ _ h => h) (Or.inl ⟨by rfl, ?_⟩) ?_ ?_
        rotate_left
        · intro w'
          go_simp
          with_reducible rfl
        rotate_left
        · simp only [Act.put, List.setIfInBounds_toArray, List.set_cons_zero, List.set_cons_succ, i64_w, i32_w]
          rfl
        refine last_ (i := 19) (N := none) #[true, true, true, true, true, true, true, true, true, true, true, true, true, true, true, true, true, true, true, true, false] rfl rfl (one_of HT_.out (by kernel_rfl)) (by decide) (fun K hK => ?_)
        refine box_skip (by rfl) rfl 24 (.tmp 6) (.tmp 65) rfl held #[.slice X4 (withS la p { y.l with f0 := ver }).length k4, .slice X5 (withS lb p { y.l with f0 := ver }).length k5, .slice X6 (withS lc p { y.l with f0 := ver }).length k6] rfl rfl info24 (by rfl) (by rfl) ?_
        intro w9 hx9 hg9
        have p9 := prev_row hg9
        have HZ := Aside0.mk hx9
        clear hx9 hg9
        refine hK.out _ _ ?_
        clear hK K
        refine pure_ (i := 20) (N := some 7) (v := ?_) (a' := ?_) #[true, true, true, true, true, true, true, true, true, true, true, true, true, true, true, true, true, true, true, true, true] rfl rfl (any_of HT_.out (by kernel_rfl)) (fun _ _ _ h => h) (Or.inl ⟨by rfl, ?_⟩) ?_ ?_
        rotate_left
        · intro w'
          go_simp
          with_reducible rfl
        rotate_left
        · simp only [Act.put, List.setIfInBounds_toArray, List.set_cons_zero, List.set_cons_succ, i64_w, i32_w]
          rfl
        refine done_ (done_of HT_.out (by kernel_rfl)) ?_
        go_wp2_with fail
        refine bodyPost_ret (results_row_tmp rfl _ _ (.int .i64 0) HZ.out rfl rfl Tryd.underlying24 rfl (by exact info24)) rfl ?_
        exact ⟨_, rfl, DoOut.of (.inr (Kd.R_lower (rowX HV4.out) (bel w _).size)) (.inr (Kd.R_lower (rowX HV5.out) (bel w _).size)) (.inr (Kd.R_lower (rowX HV6.out) (bel w _).size)), bel _ _⟩
    · · rw [if_neg (fun h => absurd h.1 (by decide))] at hr
        subst hr
        go_wp2_with fail
        refine start_ (n := 13) (S := fun w' => w'.heap[w.heap.size]? = some (.cells #[.slice A la.length c, .slice B lb.length d, .slice C lc.length e] 24 (0, 0)) ∧ w'.heap[w.heap.size + 1]? = some (.cells #[.int .i64 2, .int .i64 u, .string p, .string q] 33 (0, 0)) ∧ w'.heap[w2.heap.size]? = some (.cells (A65 y) 65 (0, 0))) (ds := [11]) #[false, false, false, false, false, false, false, false, false, false, false, false, false] (by kernel_rfl) rfl rfl ⟨held, held, held⟩ (fun hHeld => ?_); refine with_tabW do14.tab14 do14.bits14 (fun HT_ HW_ => ?_)
        refine pure_ (i := 0) (N := some 68) (v := ?_) (a' := ?_) #[true, false, false, false, false, false, false, false, false, false, false, false, false] rfl rfl (any_of HT_.out (by kernel_rfl)) (fun _ _ _ h => h) (Or.inl ⟨by rfl, ?_⟩) ?_ ?_
        rotate_left
        · intro w'
          go_simp
          with_reducible rfl
        rotate_left
        · simp only [Act.put, List.setIfInBounds_toArray, List.set_cons_zero, List.set_cons_succ, i64_w, i32_w]
          rfl
        refine pure_ (i := 2) (N := some 70) (v := ?_) (a' := ?_) #[true, false, true, false, false, false, false, false, false, false, false, false, false] rfl rfl (any_of HT_.out (by kernel_rfl)) (fun _ _ _ h => h) (Or.inl ⟨by rfl, ?_⟩) ?_ ?_
        rotate_left
        · intro w'
          go_simp
          with_reducible rfl
        rotate_left
        · simp only [Act.put, List.setIfInBounds_toArray, List.set_cons_zero, List.set_cons_succ, i64_w, i32_w]
          rfl
        refine pure_ (i := 4) (N := some 72) (v := ?_) (a' := ?_) #[true, false, true, false, true, false, false, false, false, false, false, false, false] rfl rfl (any_of HT_.out (by kernel_rfl)) (fun _ _ _ h => h) (Or.inl ⟨by rfl, ?_⟩) ?_ ?_
        rotate_left
        · intro w'
          go_simp
          with_reducible rfl
        rotate_left
        · simp only [Act.put, List.setIfInBounds_toArray, List.set_cons_zero, List.set_cons_succ, i64_w, i32_w]
          rfl
        refine pure_ (i := 6) (N := some 74) (v := ?_) (a' := ?_) #[true, false, true, false, true, false, true, false, false, false, false, false, false] rfl rfl (any_of HT_.out (by kernel_rfl)) (fun _ _ _ h => h) (Or.inl ⟨by rfl, ?_⟩) ?_ ?_
        rotate_left
        · intro w'
          go_simp
          with_reducible rfl
        rotate_left
        · simp only [Act.put, List.setIfInBounds_toArray, List.set_cons_zero, List.set_cons_succ, i64_w, i32_w]
          rfl
        refine pure_ (i := 8) (N := some 76) (v := ?_) (a' := ?_) #[true, false, true, false, true, false, true, false, true, false, false, false, false] rfl rfl (any_of HT_.out (by kernel_rfl)) (fun _ _ _ h => h) (Or.inl ⟨by rfl, ?_⟩) ?_ ?_
        rotate_left
        · intro w'
          go_simp
          with_reducible rfl
        rotate_left
        · simp only [Act.put, List.setIfInBounds_toArray, List.set_cons_zero, List.set_cons_succ, i64_w, i32_w]
          rfl
        refine take_ (i := 1) (N := some 69) (v := ?_) (a' := ?_) #[true, true, true, false, true, false, true, false, true, false, false, false, false] rfl rfl (take_ofW HT_.out HW_.out (by kernel_rfl)) (fun _ _ _ h => h) (Or.inl ⟨by rfl, ?_⟩) hHeld ?_ ?_
        rotate_left
        · rintro w' ⟨s0, s1, s2⟩
          have i0 : Go.Proofs.YtjllbkeobibnkaaDoorK.Holds w' w.heap.size (.cells #[.slice A la.length c, .slice B lb.length d, .slice C lc.length e] 24) := ⟨s0⟩
          have i1 : Go.Proofs.YtjllbkeobibnkaaDoorK.Holds w' (w.heap.size + 1) (.cells #[.int .i64 2, .int .i64 u, .string p, .string q] 33) := ⟨s1⟩
          have i2 : Go.Proofs.YtjllbkeobibnkaaDoorK.Holds w' w2.heap.size (.cells (A65 y) 65) := ⟨s2⟩
          go_simp
          with_reducible rfl
        rotate_left
        · simp only [Act.put, List.setIfInBounds_toArray, List.set_cons_zero, List.set_cons_succ, i64_w, i32_w]
          rfl
        refine take_ (i := 5) (N := some 73) (v := ?_) (a' := ?_) #[true, true, true, false, true, true, true, false, true, false, false, false, false] rfl rfl (take_ofW HT_.out HW_.out (by kernel_rfl)) (fun _ _ _ h => h) (Or.inl ⟨by rfl, ?_⟩) hHeld ?_ ?_
        rotate_left
        · rintro w' ⟨s0, s1, s2⟩
          have i0 : Go.Proofs.YtjllbkeobibnkaaDoorK.Holds w' w.heap.size (.cells #[.slice A la.length c, .slice B lb.length d, .slice C lc.length e] 24) := ⟨s0⟩
          have i1 : Go.Proofs.YtjllbkeobibnkaaDoorK.Holds w' (w.heap.size + 1) (.cells #[.int .i64 2, .int .i64 u, .string p, .string q] 33) := ⟨s1⟩
          have i2 : Go.Proofs.YtjllbkeobibnkaaDoorK.Holds w' w2.heap.size (.cells (A65 y) 65) := ⟨s2⟩
          go_simp
          with_reducible rfl
        rotate_left
        · simp only [Act.put, List.setIfInBounds_toArray, List.set_cons_zero, List.set_cons_succ, i64_w, i32_w]
          rfl
        refine take_ (i := 7) (N := some 75) (v := ?_) (a' := ?_) #[true, true, true, false, true, true, true, true, true, false, false, false, false] rfl rfl (take_ofW HT_.out HW_.out (by kernel_rfl)) (fun _ _ _ h => h) (Or.inl ⟨by rfl, ?_⟩) hHeld ?_ ?_
        rotate_left
        · rintro w' ⟨s0, s1, s2⟩
          have i0 : Go.Proofs.YtjllbkeobibnkaaDoorK.Holds w' w.heap.size (.cells #[.slice A la.length c, .slice B lb.length d, .slice C lc.length e] 24) := ⟨s0⟩
          have i1 : Go.Proofs.YtjllbkeobibnkaaDoorK.Holds w' (w.heap.size + 1) (.cells #[.int .i64 2, .int .i64 u, .string p, .string q] 33) := ⟨s1⟩
          have i2 : Go.Proofs.YtjllbkeobibnkaaDoorK.Holds w' w2.heap.size (.cells (A65 y) 65) := ⟨s2⟩
          go_simp
          with_reducible rfl
        rotate_left
        · simp only [Act.put, List.setIfInBounds_toArray, List.set_cons_zero, List.set_cons_succ, i64_w, i32_w]
          rfl
        refine one_ (i := 3) (N := some 71) #[true, true, true, true, true, true, true, true, true, false, false, false, false] rfl rfl (one_of HT_.out (by kernel_rfl)) (by decide) (fun K hK => ?_)
        refine goes_ Tryd.func36 (by kernel_rfl) rfl #[.slice A la.length c, .string p] (by rfl) rfl rfl (by (try simp only [List.map_toArray, List.map_cons, List.map_nil]); first | done | rfl) ?_
        refine (HO0.out _ (bel _ _)).mono ?_
        rintro e4 w4 ⟨v4, rfl, hv, hb⟩
        have p4 := prev_call hb
        obtain ⟨X4, k4, rfl⟩ := Kd.R_slice hv
        have HV4 := Aside0.mk hv
        clear hb hv
        refine ⟨_, rfl, ?_⟩
        refine hK.out _ _ ⟨held, held, held⟩ (fun hHeld => ?_)
        clear hK K
        refine norm_ (a' := ?_) ?_ ?_
        rotate_left
        · show Act.put _ (some 71) _ = _
          simp only [Act.put, List.setIfInBounds_toArray, List.set_cons_zero, List.set_cons_succ, i64_w, i32_w]
          rfl
        refine one_ (i := 9) (N := some 77) #[true, true, true, true, true, true, true, true, true, true, false, false, false] rfl rfl (one_of HT_.out (by kernel_rfl)) (by decide) (fun K hK => ?_)
        refine goes_ Tryd.func36 (by kernel_rfl) rfl #[.slice C lc.length e, .string p] (by rfl) rfl rfl (by (try simp only [List.map_toArray, List.map_cons, List.map_nil]); first | done | rfl) ?_
        refine (HO2.out _ (bel _ _)).mono ?_
        rintro e5 w5 ⟨v5, rfl, hv, hb⟩
        have p5 := prev_call hb
        obtain ⟨X5, k5, rfl⟩ := Kd.R_slice hv
        have HV5 := Aside0.mk hv
        clear hb hv
        refine ⟨_, rfl, ?_⟩
        refine hK.out _ _ ⟨held, held, held⟩ (fun hHeld => ?_)
        clear hK K
        refine norm_ (a' := ?_) ?_ ?_
        rotate_left
        · show Act.put _ (some 77) _ = _
          simp only [Act.put, List.setIfInBounds_toArray, List.set_cons_zero, List.set_cons_succ, i64_w, i32_w]
          rfl
        refine pure_ (i := 10) (N := some 78) (v := ?_) (a' := ?_) #[true, true, true, true, true, true, true, true, true, true, true, false, false] rfl rfl (any_of HT_.out (by kernel_rfl)) (fun _ _ _ h => h) (Or.inl ⟨by rfl, ?_⟩) ?_ ?_
        rotate_left
        · intro w'
          go_simp
          with_reducible rfl
        rotate_left
        · simp only [Act.put, List.setIfInBounds_toArray, List.set_cons_zero, List.set_cons_succ, i64_w, i32_w]
          rfl
        refine last_ (i := 11) (N := none) #[true, true, true, true, true, true, true, true, true, true, true, true, false] rfl rfl (one_of HT_.out (by kernel_rfl)) (by decide) (fun K hK => ?_)
        refine box_skip (by rfl) rfl 24 (.tmp 6) (.tmp 78) rfl held #[.slice X4 (woS la p).length k4, .slice B lb.length d, .slice X5 (woS lc p).length k5] rfl rfl info24 (by rfl) (by rfl) ?_
        intro w9 hx9 hg9
        have p9 := prev_row hg9
        have HZ := Aside0.mk hx9
        clear hx9 hg9
        refine hK.out _ _ ?_
        clear hK K
        refine pure_ (i := 12) (N := some 7) (v := ?_) (a' := ?_) #[true, true, true, true, true, true, true, true, true, true, true, true, true] rfl rfl (any_of HT_.out (by kernel_rfl)) (fun _ _ _ h => h) (Or.inl ⟨by rfl, ?_⟩) ?_ ?_
        rotate_left
        · intro w'
          go_simp
          with_reducible rfl
        rotate_left
        · simp only [Act.put, List.setIfInBounds_toArray, List.set_cons_zero, List.set_cons_succ, i64_w, i32_w]
          rfl
        refine done_ (done_of HT_.out (by kernel_rfl)) ?_
        go_wp2_with fail
        refine bodyPost_ret (results_row_tmp rfl _ _ (.int .i64 0) HZ.out rfl rfl Tryd.underlying24 rfl (by exact info24)) rfl ?_
        exact ⟨_, rfl, DoOut.of (.inr (Kd.R_lower (rowX HV4.out) (bel w _).size)) (.inl ⟨rfl, rfl⟩) (.inr (Kd.R_lower (rowX HV5.out) (bel w _).size)), bel _ _⟩
    · · rw [if_neg (fun h => absurd h.1 (by decide))] at hr
        subst hr
        go_wp2_with fail
        refine start_ (n := 17) (S := fun w' => w'.heap[w.heap.size]? = some (.cells #[.slice A la.length c, .slice B lb.length d, .slice C lc.length e] 24 (0, 0)) ∧ w'.heap[w.heap.size + 1]? = some (.cells #[.int .i64 3, .int .i64 u, .string p, .string q] 33 (0, 0)) ∧ w'.heap[w2.heap.size]? = some (.cells (A65 y) 65 (0, 0))) (ds := [15]) #[false, false, false, false, false, false, false, false, false, false, false, false, false, false, false, false, false] (by kernel_rfl) rfl rfl ⟨held, held, held⟩ (fun hHeld => ?_); refine with_tabW do16.tab16 do16.bits16 (fun HT_ HW_ => ?_)
        refine pure_ (i := 0) (N := some 81) (v := ?_) (a' := ?_) #[true, false, false, false, false, false, false, false, false, false, false, false, false, false, false, false, false] rfl rfl (any_of HT_.out (by kernel_rfl)) (fun _ _ _ h => h) (Or.inl ⟨by rfl, ?_⟩) ?_ ?_
        rotate_left
        · intro w'
          go_simp
          with_reducible rfl
        rotate_left
        · simp only [Act.put, List.setIfInBounds_toArray, List.set_cons_zero, List.set_cons_succ, i64_w, i32_w]
          rfl
        refine pure_ (i := 2) (N := some 83) (v := ?_) (a' := ?_) #[true, false, true, false, false, false, false, false, false, false, false, false, false, false, false, false, false] rfl rfl (any_of HT_.out (by kernel_rfl)) (fun _ _ _ h => h) (Or.inl ⟨by rfl, ?_⟩) ?_ ?_
        rotate_left
        · intro w'
          go_simp
          with_reducible rfl
        rotate_left
        · simp only [Act.put, List.setIfInBounds_toArray, List.set_cons_zero, List.set_cons_succ, i64_w, i32_w]
          rfl
        refine pure_ (i := 3) (N := some 84) (v := ?_) (a' := ?_) #[true, false, true, true, false, false, false, false, false, false, false, false, false, false, false, false, false] rfl rfl (any_of HT_.out (by kernel_rfl)) (fun _ _ _ h => h) (Or.inl ⟨by rfl, ?_⟩) ?_ ?_
        rotate_left
        · intro w'
          go_simp
          with_reducible rfl
        rotate_left
        · simp only [Act.put, List.setIfInBounds_toArray, List.set_cons_zero, List.set_cons_succ, i64_w, i32_w]
          rfl
        refine pure_ (i := 6) (N := some 87) (v := ?_) (a' := ?_) #[true, false, true, true, false, false, true, false, false, false, false, false, false, false, false, false, false] rfl rfl (any_of HT_.out (by kernel_rfl)) (fun _ _ _ h => h) (Or.inl ⟨by rfl, ?_⟩) ?_ ?_
        rotate_left
        · intro w'
          go_simp
          with_reducible rfl
        rotate_left
        · simp only [Act.put, List.setIfInBounds_toArray, List.set_cons_zero, List.set_cons_succ, i64_w, i32_w]
          rfl
        refine pure_ (i := 8) (N := some 89) (v := ?_) (a' := ?_) #[true, false, true, true, false, false, true, false, true, false, false, false, false, false, false, false, false] rfl rfl (any_of HT_.out (by kernel_rfl)) (fun _ _ _ h => h) (Or.inl ⟨by rfl, ?_⟩) ?_ ?_
        rotate_left
        · intro w'
          go_simp
          with_reducible rfl
        rotate_left
        · simp only [Act.put, List.setIfInBounds_toArray, List.set_cons_zero, List.set_cons_succ, i64_w, i32_w]
          rfl
        refine pure_ (i := 9) (N := some 90) (v := ?_) (a' := ?_) #[true, false, true, true, false, false, true, false, true, true, false, false, false, false, false, false, false] rfl rfl (any_of HT_.out (by kernel_rfl)) (fun _ _ _ h => h) (Or.inl ⟨by rfl, ?_⟩) ?_ ?_
        rotate_left
        · intro w'
          go_simp
          with_reducible rfl
        rotate_left
        · simp only [Act.put, List.setIfInBounds_toArray, List.set_cons_zero, List.set_cons_succ, i64_w, i32_w]
          rfl
        refine pure_ (i := 12) (N := some 93) (v := ?_) (a' := ?_) #[true, false, true, true, false, false, true, false, true, true, false, false, true, false, false, false, false] rfl rfl (any_of HT_.out (by kernel_rfl)) (fun _ _ _ h => h) (Or.inl ⟨by rfl, ?_⟩) ?_ ?_
        rotate_left
        · intro w'
          go_simp
          with_reducible rfl
        rotate_left
        · simp only [Act.put, List.setIfInBounds_toArray, List.set_cons_zero, List.set_cons_succ, i64_w, i32_w]
          rfl
        refine take_ (i := 1) (N := some 82) (v := ?_) (a' := ?_) #[true, true, true, true, false, false, true, false, true, true, false, false, true, false, false, false, false] rfl rfl (take_ofW HT_.out HW_.out (by kernel_rfl)) (fun _ _ _ h => h) (Or.inl ⟨by rfl, ?_⟩) hHeld ?_ ?_
        rotate_left
        · rintro w' ⟨s0, s1, s2⟩
          have i0 : Go.Proofs.YtjllbkeobibnkaaDoorK.Holds w' w.heap.size (.cells #[.slice A la.length c, .slice B lb.length d, .slice C lc.length e] 24) := ⟨s0⟩
          have i1 : Go.Proofs.YtjllbkeobibnkaaDoorK.Holds w' (w.heap.size + 1) (.cells #[.int .i64 3, .int .i64 u, .string p, .string q] 33) := ⟨s1⟩
          have i2 : Go.Proofs.YtjllbkeobibnkaaDoorK.Holds w' w2.heap.size (.cells (A65 y) 65) := ⟨s2⟩
          go_simp
          with_reducible rfl
        rotate_left
        · simp only [Act.put, List.setIfInBounds_toArray, List.set_cons_zero, List.set_cons_succ, i64_w, i32_w]
          rfl
        refine take_ (i := 4) (N := some 85) (v := ?_) (a' := ?_) #[true, true, true, true, true, false, true, false, true, true, false, false, true, false, false, false, false] rfl rfl (take_ofW HT_.out HW_.out (by kernel_rfl)) (fun _ _ _ h => h) (Or.inl ⟨by rfl, ?_⟩) hHeld ?_ ?_
        rotate_left
        · rintro w' ⟨s0, s1, s2⟩
          have i0 : Go.Proofs.YtjllbkeobibnkaaDoorK.Holds w' w.heap.size (.cells #[.slice A la.length c, .slice B lb.length d, .slice C lc.length e] 24) := ⟨s0⟩
          have i1 : Go.Proofs.YtjllbkeobibnkaaDoorK.Holds w' (w.heap.size + 1) (.cells #[.int .i64 3, .int .i64 u, .string p, .string q] 33) := ⟨s1⟩
          have i2 : Go.Proofs.YtjllbkeobibnkaaDoorK.Holds w' w2.heap.size (.cells (A65 y) 65) := ⟨s2⟩
          go_simp
          with_reducible rfl
        rotate_left
        · simp only [Act.put, List.setIfInBounds_toArray, List.set_cons_zero, List.set_cons_succ, i64_w, i32_w]
          rfl
        refine take_ (i := 7) (N := some 88) (v := ?_) (a' := ?_) #[true, true, true, true, true, false, true, true, true, true, false, false, true, false, false, false, false] rfl rfl (take_ofW HT_.out HW_.out (by kernel_rfl)) (fun _ _ _ h => h) (Or.inl ⟨by rfl, ?_⟩) hHeld ?_ ?_
        rotate_left
        · rintro w' ⟨s0, s1, s2⟩
          have i0 : Go.Proofs.YtjllbkeobibnkaaDoorK.Holds w' w.heap.size (.cells #[.slice A la.length c, .slice B lb.length d, .slice C lc.length e] 24) := ⟨s0⟩
          have i1 : Go.Proofs.YtjllbkeobibnkaaDoorK.Holds w' (w.heap.size + 1) (.cells #[.int .i64 3, .int .i64 u, .string p, .string q] 33) := ⟨s1⟩
          have i2 : Go.Proofs.YtjllbkeobibnkaaDoorK.Holds w' w2.heap.size (.cells (A65 y) 65) := ⟨s2⟩
          go_simp
          with_reducible rfl
        rotate_left
        · simp only [Act.put, List.setIfInBounds_toArray, List.set_cons_zero, List.set_cons_succ, i64_w, i32_w]
          rfl
        refine take_ (i := 10) (N := some 91) (v := ?_) (a' := ?_) #[true, true, true, true, true, false, true, true, true, true, true, false, true, false, false, false, false] rfl rfl (take_ofW HT_.out HW_.out (by kernel_rfl)) (fun _ _ _ h => h) (Or.inl ⟨by rfl, ?_⟩) hHeld ?_ ?_
        rotate_left
        · rintro w' ⟨s0, s1, s2⟩
          have i0 : Go.Proofs.YtjllbkeobibnkaaDoorK.Holds w' w.heap.size (.cells #[.slice A la.length c, .slice B lb.length d, .slice C lc.length e] 24) := ⟨s0⟩
          have i1 : Go.Proofs.YtjllbkeobibnkaaDoorK.Holds w' (w.heap.size + 1) (.cells #[.int .i64 3, .int .i64 u, .string p, .string q] 33) := ⟨s1⟩
          have i2 : Go.Proofs.YtjllbkeobibnkaaDoorK.Holds w' w2.heap.size (.cells (A65 y) 65) := ⟨s2⟩
          go_simp
          with_reducible rfl
        rotate_left
        · simp only [Act.put, List.setIfInBounds_toArray, List.set_cons_zero, List.set_cons_succ, i64_w, i32_w]
          rfl
        refine take_ (i := 13) (N := some 94) (v := ?_) (a' := ?_) #[true, true, true, true, true, false, true, true, true, true, true, false, true, true, false, false, false] rfl rfl (take_ofW HT_.out HW_.out (by kernel_rfl)) (fun _ _ _ h => h) (Or.inl ⟨by rfl, ?_⟩) hHeld ?_ ?_
        rotate_left
        · rintro w' ⟨s0, s1, s2⟩
          have i0 : Go.Proofs.YtjllbkeobibnkaaDoorK.Holds w' w.heap.size (.cells #[.slice A la.length c, .slice B lb.length d, .slice C lc.length e] 24) := ⟨s0⟩
          have i1 : Go.Proofs.YtjllbkeobibnkaaDoorK.Holds w' (w.heap.size + 1) (.cells #[.int .i64 3, .int .i64 u, .string p, .string q] 33) := ⟨s1⟩
          have i2 : Go.Proofs.YtjllbkeobibnkaaDoorK.Holds w' w2.heap.size (.cells (A65 y) 65) := ⟨s2⟩
          go_simp
          with_reducible rfl
        rotate_left
        · simp only [Act.put, List.setIfInBounds_toArray, List.set_cons_zero, List.set_cons_succ, i64_w, i32_w]
          rfl
        refine one_ (i := 5) (N := some 86) #[true, true, true, true, true, true, true, true, true, true, true, false, true, true, false, false, false] rfl rfl (one_of HT_.out (by kernel_rfl)) (by decide) (fun K hK => ?_)
        refine goes_ Tryd.func35 (by kernel_rfl) rfl #[.slice A la.length c, .string p, .agg (A51 y.r)] (by rfl) rfl rfl (by (try simp only [List.map_toArray, List.map_cons, List.map_nil]); first | done | rfl) ?_
        refine (HW0.out _ (bel _ _) (y.r)).mono ?_
        rintro e4 w4 ⟨v4, rfl, hv, hb⟩
        have p4 := prev_call hb
        obtain ⟨X4, k4, rfl⟩ := Kd.R_slice hv
        have HV4 := Aside0.mk hv
        clear hb hv
        refine ⟨_, rfl, ?_⟩
        refine hK.out _ _ ⟨held, held, held⟩ (fun hHeld => ?_)
        clear hK K
        refine norm_ (a' := ?_) ?_ ?_
        rotate_left
        · show Act.put _ (some 86) _ = _
          simp only [Act.put, List.setIfInBounds_toArray, List.set_cons_zero, List.set_cons_succ, i64_w, i32_w]
          rfl
        refine one_ (i := 11) (N := some 92) #[true, true, true, true, true, true, true, true, true, true, true, true, true, true, false, false, false] rfl rfl (one_of HT_.out (by kernel_rfl)) (by decide) (fun K hK => ?_)
        refine goes_ Tryd.func35 (by kernel_rfl) rfl #[.slice B lb.length d, .string p, .agg (A51 y.r)] (by rfl) rfl rfl (by (try simp only [List.map_toArray, List.map_cons, List.map_nil]); first | done | rfl) ?_
        refine (HW1.out _ (bel _ _) (y.r)).mono ?_
        rintro e5 w5 ⟨v5, rfl, hv, hb⟩
        have p5 := prev_call hb
        obtain ⟨X5, k5, rfl⟩ := Kd.R_slice hv
        have HV5 := Aside0.mk hv
        clear hb hv
        refine ⟨_, rfl, ?_⟩
        refine hK.out _ _ ⟨held, held, held⟩ (fun hHeld => ?_)
        clear hK K
        refine norm_ (a' := ?_) ?_ ?_
        rotate_left
        · show Act.put _ (some 92) _ = _
          simp only [Act.put, List.setIfInBounds_toArray, List.set_cons_zero, List.set_cons_succ, i64_w, i32_w]
          rfl
        refine pure_ (i := 14) (N := some 95) (v := ?_) (a' := ?_) #[true, true, true, true, true, true, true, true, true, true, true, true, true, true, true, false, false] rfl rfl (any_of HT_.out (by kernel_rfl)) (fun _ _ _ h => h) (Or.inl ⟨by rfl, ?_⟩) ?_ ?_
        rotate_left
        · intro w'
          go_simp
          with_reducible rfl
        rotate_left
        · simp only [Act.put, List.setIfInBounds_toArray, List.set_cons_zero, List.set_cons_succ, i64_w, i32_w]
          rfl
        refine last_ (i := 15) (N := none) #[true, true, true, true, true, true, true, true, true, true, true, true, true, true, true, true, false] rfl rfl (one_of HT_.out (by kernel_rfl)) (by decide) (fun K hK => ?_)
        refine box_skip (by rfl) rfl 24 (.tmp 6) (.tmp 95) rfl held #[.slice X4 (withS la p y.r).length k4, .slice X5 (withS lb p y.r).length k5, .slice C lc.length e] rfl rfl info24 (by rfl) (by rfl) ?_
        intro w9 hx9 hg9
        have p9 := prev_row hg9
        have HZ := Aside0.mk hx9
        clear hx9 hg9
        refine hK.out _ _ ?_
        clear hK K
        refine pure_ (i := 16) (N := some 7) (v := ?_) (a' := ?_) #[true, true, true, true, true, true, true, true, true, true, true, true, true, true, true, true, true] rfl rfl (any_of HT_.out (by kernel_rfl)) (fun _ _ _ h => h) (Or.inl ⟨by rfl, ?_⟩) ?_ ?_
        rotate_left
        · intro w'
          go_simp
          with_reducible rfl
        rotate_left
        · simp only [Act.put, List.setIfInBounds_toArray, List.set_cons_zero, List.set_cons_succ, i64_w, i32_w]
          rfl
        refine done_ (done_of HT_.out (by kernel_rfl)) ?_
        go_wp2_with fail
        refine bodyPost_ret (results_row_tmp rfl _ _ (.int .i64 0) HZ.out rfl rfl Tryd.underlying24 rfl (by exact info24)) rfl ?_
        exact ⟨_, rfl, DoOut.of (.inr (Kd.R_lower (rowX HV4.out) (bel w _).size)) (.inr (Kd.R_lower (rowX HV5.out) (bel w _).size)) (.inl ⟨rfl, rfl⟩), bel _ _⟩
    · · rw [if_neg (fun h => absurd h.1 (by decide))] at hr
        subst hr
        go_wp2_with fail
        refine start_ (n := 13) (S := fun w' => w'.heap[w.heap.size]? = some (.cells #[.slice A la.length c, .slice B lb.length d, .slice C lc.length e] 24 (0, 0)) ∧ w'.heap[w.heap.size + 1]? = some (.cells #[.int .i64 4, .int .i64 u, .string p, .string q] 33 (0, 0)) ∧ w'.heap[w2.heap.size]? = some (.cells (A65 y) 65 (0, 0))) (ds := [11]) #[false, false, false, false, false, false, false, false, false, false, false, false, false] (by kernel_rfl) rfl rfl ⟨held, held, held⟩ (fun hHeld => ?_); refine with_tabW do18.tab18 do18.bits18 (fun HT_ HW_ => ?_)
        refine pure_ (i := 0) (N := some 98) (v := ?_) (a' := ?_) #[true, false, false, false, false, false, false, false, false, false, false, false, false] rfl rfl (any_of HT_.out (by kernel_rfl)) (fun _ _ _ h => h) (Or.inl ⟨by rfl, ?_⟩) ?_ ?_
        rotate_left
        · intro w'
          go_simp
          with_reducible rfl
        rotate_left
        · simp only [Act.put, List.setIfInBounds_toArray, List.set_cons_zero, List.set_cons_succ, i64_w, i32_w]
          rfl
        refine pure_ (i := 2) (N := some 100) (v := ?_) (a' := ?_) #[true, false, true, false, false, false, false, false, false, false, false, false, false] rfl rfl (any_of HT_.out (by kernel_rfl)) (fun _ _ _ h => h) (Or.inl ⟨by rfl, ?_⟩) ?_ ?_
        rotate_left
        · intro w'
          go_simp
          with_reducible rfl
        rotate_left
        · simp only [Act.put, List.setIfInBounds_toArray, List.set_cons_zero, List.set_cons_succ, i64_w, i32_w]
          rfl
        refine pure_ (i := 4) (N := some 102) (v := ?_) (a' := ?_) #[true, false, true, false, true, false, false, false, false, false, false, false, false] rfl rfl (any_of HT_.out (by kernel_rfl)) (fun _ _ _ h => h) (Or.inl ⟨by rfl, ?_⟩) ?_ ?_
        rotate_left
        · intro w'
          go_simp
          with_reducible rfl
        rotate_left
        · simp only [Act.put, List.setIfInBounds_toArray, List.set_cons_zero, List.set_cons_succ, i64_w, i32_w]
          rfl
        refine pure_ (i := 6) (N := some 104) (v := ?_) (a' := ?_) #[true, false, true, false, true, false, true, false, false, false, false, false, false] rfl rfl (any_of HT_.out (by kernel_rfl)) (fun _ _ _ h => h) (Or.inl ⟨by rfl, ?_⟩) ?_ ?_
        rotate_left
        · intro w'
          go_simp
          with_reducible rfl
        rotate_left
        · simp only [Act.put, List.setIfInBounds_toArray, List.set_cons_zero, List.set_cons_succ, i64_w, i32_w]
          rfl
        refine pure_ (i := 8) (N := some 106) (v := ?_) (a' := ?_) #[true, false, true, false, true, false, true, false, true, false, false, false, false] rfl rfl (any_of HT_.out (by kernel_rfl)) (fun _ _ _ h => h) (Or.inl ⟨by rfl, ?_⟩) ?_ ?_
        rotate_left
        · intro w'
          go_simp
          with_reducible rfl
        rotate_left
        · simp only [Act.put, List.setIfInBounds_toArray, List.set_cons_zero, List.set_cons_succ, i64_w, i32_w]
          rfl
        refine take_ (i := 1) (N := some 99) (v := ?_) (a' := ?_) #[true, true, true, false, true, false, true, false, true, false, false, false, false] rfl rfl (take_ofW HT_.out HW_.out (by kernel_rfl)) (fun _ _ _ h => h) (Or.inl ⟨by rfl, ?_⟩) hHeld ?_ ?_
        rotate_left
        · rintro w' ⟨s0, s1, s2⟩
          have i0 : Go.Proofs.YtjllbkeobibnkaaDoorK.Holds w' w.heap.size (.cells #[.slice A la.length c, .slice B lb.length d, .slice C lc.length e] 24) := ⟨s0⟩
          have i1 : Go.Proofs.YtjllbkeobibnkaaDoorK.Holds w' (w.heap.size + 1) (.cells #[.int .i64 4, .int .i64 u, .string p, .string q] 33) := ⟨s1⟩
          have i2 : Go.Proofs.YtjllbkeobibnkaaDoorK.Holds w' w2.heap.size (.cells (A65 y) 65) := ⟨s2⟩
          go_simp
          with_reducible rfl
        rotate_left
        · simp only [Act.put, List.setIfInBounds_toArray, List.set_cons_zero, List.set_cons_succ, i64_w, i32_w]
          rfl
        refine take_ (i := 5) (N := some 103) (v := ?_) (a' := ?_) #[true, true, true, false, true, true, true, false, true, false, false, false, false] rfl rfl (take_ofW HT_.out HW_.out (by kernel_rfl)) (fun _ _ _ h => h) (Or.inl ⟨by rfl, ?_⟩) hHeld ?_ ?_
        rotate_left
        · rintro w' ⟨s0, s1, s2⟩
          have i0 : Go.Proofs.YtjllbkeobibnkaaDoorK.Holds w' w.heap.size (.cells #[.slice A la.length c, .slice B lb.length d, .slice C lc.length e] 24) := ⟨s0⟩
          have i1 : Go.Proofs.YtjllbkeobibnkaaDoorK.Holds w' (w.heap.size + 1) (.cells #[.int .i64 4, .int .i64 u, .string p, .string q] 33) := ⟨s1⟩
          have i2 : Go.Proofs.YtjllbkeobibnkaaDoorK.Holds w' w2.heap.size (.cells (A65 y) 65) := ⟨s2⟩
          go_simp
          with_reducible rfl
        rotate_left
        · simp only [Act.put, List.setIfInBounds_toArray, List.set_cons_zero, List.set_cons_succ, i64_w, i32_w]
          rfl
        refine take_ (i := 9) (N := some 107) (v := ?_) (a' := ?_) #[true, true, true, false, true, true, true, false, true, true, false, false, false] rfl rfl (take_ofW HT_.out HW_.out (by kernel_rfl)) (fun _ _ _ h => h) (Or.inl ⟨by rfl, ?_⟩) hHeld ?_ ?_
        rotate_left
        · rintro w' ⟨s0, s1, s2⟩
          have i0 : Go.Proofs.YtjllbkeobibnkaaDoorK.Holds w' w.heap.size (.cells #[.slice A la.length c, .slice B lb.length d, .slice C lc.length e] 24) := ⟨s0⟩
          have i1 : Go.Proofs.YtjllbkeobibnkaaDoorK.Holds w' (w.heap.size + 1) (.cells #[.int .i64 4, .int .i64 u, .string p, .string q] 33) := ⟨s1⟩
          have i2 : Go.Proofs.YtjllbkeobibnkaaDoorK.Holds w' w2.heap.size (.cells (A65 y) 65) := ⟨s2⟩
          go_simp
          with_reducible rfl
        rotate_left
        · simp only [Act.put, List.setIfInBounds_toArray, List.set_cons_zero, List.set_cons_succ, i64_w, i32_w]
          rfl
        refine one_ (i := 3) (N := some 101) #[true, true, true, true, true, true, true, false, true, true, false, false, false] rfl rfl (one_of HT_.out (by kernel_rfl)) (by decide) (fun K hK => ?_)
        refine goes_ Tryd.func36 (by kernel_rfl) rfl #[.slice A la.length c, .string p] (by rfl) rfl rfl (by (try simp only [List.map_toArray, List.map_cons, List.map_nil]); first | done | rfl) ?_
        refine (HO0.out _ (bel _ _)).mono ?_
        rintro e4 w4 ⟨v4, rfl, hv, hb⟩
        have p4 := prev_call hb
        obtain ⟨X4, k4, rfl⟩ := Kd.R_slice hv
        have HV4 := Aside0.mk hv
        clear hb hv
        refine ⟨_, rfl, ?_⟩
        refine hK.out _ _ ⟨held, held, held⟩ (fun hHeld => ?_)
        clear hK K
        refine norm_ (a' := ?_) ?_ ?_
        rotate_left
        · show Act.put _ (some 101) _ = _
          simp only [Act.put, List.setIfInBounds_toArray, List.set_cons_zero, List.set_cons_succ, i64_w, i32_w]
          rfl
        refine one_ (i := 7) (N := some 105) #[true, true, true, true, true, true, true, true, true, true, false, false, false] rfl rfl (one_of HT_.out (by kernel_rfl)) (by decide) (fun K hK => ?_)
        refine goes_ Tryd.func36 (by kernel_rfl) rfl #[.slice B lb.length d, .string p] (by rfl) rfl rfl (by (try simp only [List.map_toArray, List.map_cons, List.map_nil]); first | done | rfl) ?_
        refine (HO1.out _ (bel _ _)).mono ?_
        rintro e5 w5 ⟨v5, rfl, hv, hb⟩
        have p5 := prev_call hb
        obtain ⟨X5, k5, rfl⟩ := Kd.R_slice hv
        have HV5 := Aside0.mk hv
        clear hb hv
        refine ⟨_, rfl, ?_⟩
        refine hK.out _ _ ⟨held, held, held⟩ (fun hHeld => ?_)
        clear hK K
        refine norm_ (a' := ?_) ?_ ?_
        rotate_left
        · show Act.put _ (some 105) _ = _
          simp only [Act.put, List.setIfInBounds_toArray, List.set_cons_zero, List.set_cons_succ, i64_w, i32_w]
          rfl
        refine pure_ (i := 10) (N := some 108) (v := ?_) (a' := ?_) #[true, true, true, true, true, true, true, true, true, true, true, false, false] rfl rfl (any_of HT_.out (by kernel_rfl)) (fun _ _ _ h => h) (Or.inl ⟨by rfl, ?_⟩) ?_ ?_
        rotate_left
        · intro w'
          go_simp
          with_reducible rfl
        rotate_left
        · simp only [Act.put, List.setIfInBounds_toArray, List.set_cons_zero, List.set_cons_succ, i64_w, i32_w]
          rfl
        refine last_ (i := 11) (N := none) #[true, true, true, true, true, true, true, true, true, true, true, true, false] rfl rfl (one_of HT_.out (by kernel_rfl)) (by decide) (fun K hK => ?_)
        refine box_skip (by rfl) rfl 24 (.tmp 6) (.tmp 108) rfl held #[.slice X4 (woS la p).length k4, .slice X5 (woS lb p).length k5, .slice C lc.length e] rfl rfl info24 (by rfl) (by rfl) ?_
        intro w9 hx9 hg9
        have p9 := prev_row hg9
        have HZ := Aside0.mk hx9
        clear hx9 hg9
        refine hK.out _ _ ?_
        clear hK K
        refine pure_ (i := 12) (N := some 7) (v := ?_) (a' := ?_) #[true, true, true, true, true, true, true, true, true, true, true, true, true] rfl rfl (any_of HT_.out (by kernel_rfl)) (fun _ _ _ h => h) (Or.inl ⟨by rfl, ?_⟩) ?_ ?_
        rotate_left
        · intro w'
          go_simp
          with_reducible rfl
        rotate_left
        · simp only [Act.put, List.setIfInBounds_toArray, List.set_cons_zero, List.set_cons_succ, i64_w, i32_w]
          rfl
        refine done_ (done_of HT_.out (by kernel_rfl)) ?_
        go_wp2_with fail
        refine bodyPost_ret (results_row_tmp rfl _ _ (.int .i64 0) HZ.out rfl rfl Tryd.underlying24 rfl (by exact info24)) rfl ?_
        exact ⟨_, rfl, DoOut.of (.inr (Kd.R_lower (rowX HV4.out) (bel w _).size)) (.inr (Kd.R_lower (rowX HV5.out) (bel w _).size)) (.inl ⟨rfl, rfl⟩), bel _ _⟩
    · · rw [if_neg (fun h => absurd h.1 (by decide))] at hr
        subst hr
        go_wp2_with fail
        refine start_ (n := 17) (S := fun w' => w'.heap[w.heap.size]? = some (.cells #[.slice A la.length c, .slice B lb.length d, .slice C lc.length e] 24 (0, 0)) ∧ w'.heap[w.heap.size + 1]? = some (.cells #[.int .i64 5, .int .i64 u, .string p, .string q] 33 (0, 0)) ∧ w'.heap[w2.heap.size]? = some (.cells (A65 { y with l := { y.l with f0 := y.r.f0 } }) 65 (0, 0))) (ds := [15]) #[false, false, false, false, false, false, false, false, false, false, false, false, false, false, false, false, false] (by kernel_rfl) rfl rfl ⟨held, held, held⟩ (fun hHeld => ?_); refine with_tabW do21.tab21 do21.bits21 (fun HT_ HW_ => ?_)
        refine pure_ (i := 0) (N := some 116) (v := ?_) (a' := ?_) #[true, false, false, false, false, false, false, false, false, false, false, false, false, false, false, false, false] rfl rfl (any_of HT_.out (by kernel_rfl)) (fun _ _ _ h => h) (Or.inl ⟨by rfl, ?_⟩) ?_ ?_
        rotate_left
        · intro w'
          go_simp
          with_reducible rfl
        rotate_left
        · simp only [Act.put, List.setIfInBounds_toArray, List.set_cons_zero, List.set_cons_succ, i64_w, i32_w]
          rfl
        refine pure_ (i := 2) (N := some 118) (v := ?_) (a' := ?_) #[true, false, true, false, false, false, false, false, false, false, false, false, false, false, false, false, false] rfl rfl (any_of HT_.out (by kernel_rfl)) (fun _ _ _ h => h) (Or.inl ⟨by rfl, ?_⟩) ?_ ?_
        rotate_left
        · intro w'
          go_simp
          with_reducible rfl
        rotate_left
        · simp only [Act.put, List.setIfInBounds_toArray, List.set_cons_zero, List.set_cons_succ, i64_w, i32_w]
          rfl
        refine pure_ (i := 3) (N := some 119) (v := ?_) (a' := ?_) #[true, false, true, true, false, false, false, false, false, false, false, false, false, false, false, false, false] rfl rfl (any_of HT_.out (by kernel_rfl)) (fun _ _ _ h => h) (Or.inl ⟨by rfl, ?_⟩) ?_ ?_
        rotate_left
        · intro w'
          go_simp
          with_reducible rfl
        rotate_left
        · simp only [Act.put, List.setIfInBounds_toArray, List.set_cons_zero, List.set_cons_succ, i64_w, i32_w]
          rfl
        refine pure_ (i := 6) (N := some 122) (v := ?_) (a' := ?_) #[true, false, true, true, false, false, true, false, false, false, false, false, false, false, false, false, false] rfl rfl (any_of HT_.out (by kernel_rfl)) (fun _ _ _ h => h) (Or.inl ⟨by rfl, ?_⟩) ?_ ?_
        rotate_left
        · intro w'
          go_simp
          with_reducible rfl
        rotate_left
        · simp only [Act.put, List.setIfInBounds_toArray, List.set_cons_zero, List.set_cons_succ, i64_w, i32_w]
          rfl
        refine pure_ (i := 8) (N := some 124) (v := ?_) (a' := ?_) #[true, false, true, true, false, false, true, false, true, false, false, false, false, false, false, false, false] rfl rfl (any_of HT_.out (by kernel_rfl)) (fun _ _ _ h => h) (Or.inl ⟨by rfl, ?_⟩) ?_ ?_
        rotate_left
        · intro w'
          go_simp
          with_reducible rfl
        rotate_left
        · simp only [Act.put, List.setIfInBounds_toArray, List.set_cons_zero, List.set_cons_succ, i64_w, i32_w]
          rfl
        refine pure_ (i := 9) (N := some 125) (v := ?_) (a' := ?_) #[true, false, true, true, false, false, true, false, true, true, false, false, false, false, false, false, false] rfl rfl (any_of HT_.out (by kernel_rfl)) (fun _ _ _ h => h) (Or.inl ⟨by rfl, ?_⟩) ?_ ?_
        rotate_left
        · intro w'
          go_simp
          with_reducible rfl
        rotate_left
        · simp only [Act.put, List.setIfInBounds_toArray, List.set_cons_zero, List.set_cons_succ, i64_w, i32_w]
          rfl
        refine pure_ (i := 12) (N := some 128) (v := ?_) (a' := ?_) #[true, false, true, true, false, false, true, false, true, true, false, false, true, false, false, false, false] rfl rfl (any_of HT_.out (by kernel_rfl)) (fun _ _ _ h => h) (Or.inl ⟨by rfl, ?_⟩) ?_ ?_
        rotate_left
        · intro w'
          go_simp
          with_reducible rfl
        rotate_left
        · simp only [Act.put, List.setIfInBounds_toArray, List.set_cons_zero, List.set_cons_succ, i64_w, i32_w]
          rfl
        refine take_ (i := 1) (N := some 117) (v := ?_) (a' := ?_) #[true, true, true, true, false, false, true, false, true, true, false, false, true, false, false, false, false] rfl rfl (take_ofW HT_.out HW_.out (by kernel_rfl)) (fun _ _ _ h => h) (Or.inl ⟨by rfl, ?_⟩) hHeld ?_ ?_
        rotate_left
        · rintro w' ⟨s0, s1, s2⟩
          have i0 : Go.Proofs.YtjllbkeobibnkaaDoorK.Holds w' w.heap.size (.cells #[.slice A la.length c, .slice B lb.length d, .slice C lc.length e] 24) := ⟨s0⟩
          have i1 : Go.Proofs.YtjllbkeobibnkaaDoorK.Holds w' (w.heap.size + 1) (.cells #[.int .i64 5, .int .i64 u, .string p, .string q] 33) := ⟨s1⟩
          have i2 : Go.Proofs.YtjllbkeobibnkaaDoorK.Holds w' w2.heap.size (.cells (A65 { y with l := { y.l with f0 := y.r.f0 } }) 65) := ⟨s2⟩
          go_simp
          with_reducible rfl
        rotate_left
        · simp only [Act.put, List.setIfInBounds_toArray, List.set_cons_zero, List.set_cons_succ, i64_w, i32_w]
          rfl
        refine take_ (i := 4) (N := some 120) (v := ?_) (a' := ?_) #[true, true, true, true, true, false, true, false, true, true, false, false, true, false, false, false, false] rfl rfl (take_ofW HT_.out HW_.out (by kernel_rfl)) (fun _ _ _ h => h) (Or.inl ⟨by rfl, ?_⟩) hHeld ?_ ?_
        rotate_left
        · rintro w' ⟨s0, s1, s2⟩
          have i0 : Go.Proofs.YtjllbkeobibnkaaDoorK.Holds w' w.heap.size (.cells #[.slice A la.length c, .slice B lb.length d, .slice C lc.length e] 24) := ⟨s0⟩
          have i1 : Go.Proofs.YtjllbkeobibnkaaDoorK.Holds w' (w.heap.size + 1) (.cells #[.int .i64 5, .int .i64 u, .string p, .string q] 33) := ⟨s1⟩
          have i2 : Go.Proofs.YtjllbkeobibnkaaDoorK.Holds w' w2.heap.size (.cells (A65 { y with l := { y.l with f0 := y.r.f0 } }) 65) := ⟨s2⟩
          go_simp
          with_reducible rfl
        rotate_left
        · simp only [Act.put, List.setIfInBounds_toArray, List.set_cons_zero, List.set_cons_succ, i64_w, i32_w]
          rfl
        refine take_ (i := 7) (N := some 123) (v := ?_) (a' := ?_) #[true, true, true, true, true, false, true, true, true, true, false, false, true, false, false, false, false] rfl rfl (take_ofW HT_.out HW_.out (by kernel_rfl)) (fun _ _ _ h => h) (Or.inl ⟨by rfl, ?_⟩) hHeld ?_ ?_
        rotate_left
        · rintro w' ⟨s0, s1, s2⟩
          have i0 : Go.Proofs.YtjllbkeobibnkaaDoorK.Holds w' w.heap.size (.cells #[.slice A la.length c, .slice B lb.length d, .slice C lc.length e] 24) := ⟨s0⟩
          have i1 : Go.Proofs.YtjllbkeobibnkaaDoorK.Holds w' (w.heap.size + 1) (.cells #[.int .i64 5, .int .i64 u, .string p, .string q] 33) := ⟨s1⟩
          have i2 : Go.Proofs.YtjllbkeobibnkaaDoorK.Holds w' w2.heap.size (.cells (A65 { y with l := { y.l with f0 := y.r.f0 } }) 65) := ⟨s2⟩
          go_simp
          with_reducible rfl
        rotate_left
        · simp only [Act.put, List.setIfInBounds_toArray, List.set_cons_zero, List.set_cons_succ, i64_w, i32_w]
          rfl
        refine take_ (i := 10) (N := some 126) (v := ?_) (a' := ?_) #[true, true, true, true, true, false, true, true, true, true, true, false, true, false, false, false, false] rfl rfl (take_ofW HT_.out HW_.out (by kernel_rfl)) (fun _ _ _ h => h) (Or.inl ⟨by rfl, ?_⟩) hHeld ?_ ?_
        rotate_left
        · rintro w' ⟨s0, s1, s2⟩
          have i0 : Go.Proofs.YtjllbkeobibnkaaDoorK.Holds w' w.heap.size (.cells #[.slice A la.length c, .slice B lb.length d, .slice C lc.length e] 24) := ⟨s0⟩
          have i1 : Go.Proofs.YtjllbkeobibnkaaDoorK.Holds w' (w.heap.size + 1) (.cells #[.int .i64 5, .int .i64 u, .string p, .string q] 33) := ⟨s1⟩
          have i2 : Go.Proofs.YtjllbkeobibnkaaDoorK.Holds w' w2.heap.size (.cells (A65 { y with l := { y.l with f0 := y.r.f0 } }) 65) := ⟨s2⟩
          go_simp
          with_reducible rfl
        rotate_left
        · simp only [Act.put, List.setIfInBounds_toArray, List.set_cons_zero, List.set_cons_succ, i64_w, i32_w]
          rfl
        refine take_ (i := 13) (N := some 129) (v := ?_) (a' := ?_) #[true, true, true, true, true, false, true, true, true, true, true, false, true, true, false, false, false] rfl rfl (take_ofW HT_.out HW_.out (by kernel_rfl)) (fun _ _ _ h => h) (Or.inl ⟨by rfl, ?_⟩) hHeld ?_ ?_
        rotate_left
        · rintro w' ⟨s0, s1, s2⟩
          have i0 : Go.Proofs.YtjllbkeobibnkaaDoorK.Holds w' w.heap.size (.cells #[.slice A la.length c, .slice B lb.length d, .slice C lc.length e] 24) := ⟨s0⟩
          have i1 : Go.Proofs.YtjllbkeobibnkaaDoorK.Holds w' (w.heap.size + 1) (.cells #[.int .i64 5, .int .i64 u, .string p, .string q] 33) := ⟨s1⟩
          have i2 : Go.Proofs.YtjllbkeobibnkaaDoorK.Holds w' w2.heap.size (.cells (A65 { y with l := { y.l with f0 := y.r.f0 } }) 65) := ⟨s2⟩
          go_simp
          with_reducible rfl
        rotate_left
        · simp only [Act.put, List.setIfInBounds_toArray, List.set_cons_zero, List.set_cons_succ, i64_w, i32_w]
          rfl
        refine one_ (i := 5) (N := some 121) #[true, true, true, true, true, true, true, true, true, true, true, false, true, true, false, false, false] rfl rfl (one_of HT_.out (by kernel_rfl)) (by decide) (fun K hK => ?_)
        refine goes_ Tryd.func35 (by kernel_rfl) rfl #[.slice A la.length c, .string p, .agg (A51 y.r)] (by rfl) rfl rfl (by (try simp only [List.map_toArray, List.map_cons, List.map_nil]); first | done | rfl) ?_
        refine (HW0.out _ (bel _ _) (y.r)).mono ?_
        rintro e4 w4 ⟨v4, rfl, hv, hb⟩
        have p4 := prev_call hb
        obtain ⟨X4, k4, rfl⟩ := Kd.R_slice hv
        have HV4 := Aside0.mk hv
        clear hb hv
        refine ⟨_, rfl, ?_⟩
        refine hK.out _ _ ⟨held, held, held⟩ (fun hHeld => ?_)
        clear hK K
        refine norm_ (a' := ?_) ?_ ?_
        rotate_left
        · show Act.put _ (some 121) _ = _
          simp only [Act.put, List.setIfInBounds_toArray, List.set_cons_zero, List.set_cons_succ, i64_w, i32_w]
          rfl
        refine one_ (i := 11) (N := some 127) #[true, true, true, true, true, true, true, true, true, true, true, true, true, true, false, false, false] rfl rfl (one_of HT_.out (by kernel_rfl)) (by decide) (fun K hK => ?_)
        refine goes_ Tryd.func35 (by kernel_rfl) rfl #[.slice B lb.length d, .string p, .agg (A51 { y.l with f0 := y.r.f0 })] (by rfl) rfl rfl (by (try simp only [List.map_toArray, List.map_cons, List.map_nil]); first | done | rfl) ?_
        refine (HW1.out _ (bel _ _) ({ y.l with f0 := y.r.f0 })).mono ?_
        rintro e5 w5 ⟨v5, rfl, hv, hb⟩
        have p5 := prev_call hb
        obtain ⟨X5, k5, rfl⟩ := Kd.R_slice hv
        have HV5 := Aside0.mk hv
        clear hb hv
        refine ⟨_, rfl, ?_⟩
        refine hK.out _ _ ⟨held, held, held⟩ (fun hHeld => ?_)
        clear hK K
        refine norm_ (a' := ?_) ?_ ?_
        rotate_left
        · show Act.put _ (some 127) _ = _
          simp only [Act.put, List.setIfInBounds_toArray, List.set_cons_zero, List.set_cons_succ, i64_w, i32_w]
          rfl
        refine pure_ (i := 14) (N := some 130) (v := ?_) (a' := ?_) #[true, true, true, true, true, true, true, true, true, true, true, true, true, true, true, false, false] rfl rfl (any_of HT_.out (by kernel_rfl)) (fun _ _ _ h => h) (Or.inl ⟨by rfl, ?_⟩) ?_ ?_
        rotate_left
        · intro w'
          go_simp
          with_reducible rfl
        rotate_left
        · simp only [Act.put, List.setIfInBounds_toArray, List.set_cons_zero, List.set_cons_succ, i64_w, i32_w]
          rfl
        refine last_ (i := 15) (N := none) #[true, true, true, true, true, true, true, true, true, true, true, true, true, true, true, true, false] rfl rfl (one_of HT_.out (by kernel_rfl)) (by decide) (fun K hK => ?_)
        refine box_skip (by rfl) rfl 24 (.tmp 6) (.tmp 130) rfl held #[.slice X4 (withS la p y.r).length k4, .slice X5 (withS lb p { y.l with f0 := y.r.f0 }).length k5, .slice C lc.length e] rfl rfl info24 (by rfl) (by rfl) ?_
        intro w9 hx9 hg9
        have p9 := prev_row hg9
        have HZ := Aside0.mk hx9
        clear hx9 hg9
        refine hK.out _ _ ?_
        clear hK K
        refine pure_ (i := 16) (N := some 7) (v := ?_) (a' := ?_) #[true, true, true, true, true, true, true, true, true, true, true, true, true, true, true, true, true] rfl rfl (any_of HT_.out (by kernel_rfl)) (fun _ _ _ h => h) (Or.inl ⟨by rfl, ?_⟩) ?_ ?_
        rotate_left
        · intro w'
          go_simp
          with_reducible rfl
        rotate_left
        · simp only [Act.put, List.setIfInBounds_toArray, List.set_cons_zero, List.set_cons_succ, i64_w, i32_w]
          rfl
        refine done_ (done_of HT_.out (by kernel_rfl)) ?_
        go_wp2_with fail
        refine bodyPost_ret (results_row_tmp rfl _ _ (.int .i64 0) HZ.out rfl rfl Tryd.underlying24 rfl (by exact info24)) rfl ?_
        exact ⟨_, rfl, DoOut.of (.inr (Kd.R_lower (rowX HV4.out) (bel w _).size)) (.inr (Kd.R_lower (rowX HV5.out) (bel w _).size)) (.inl ⟨rfl, rfl⟩), bel _ _⟩
    · · rw [if_neg (fun h => absurd h.1 (by decide))] at hr
        subst hr
        go_wp2_with fail
        refine start_ (n := 11) (S := fun w' => w'.heap[w.heap.size]? = some (.cells #[.slice A la.length c, .slice B lb.length d, .slice C lc.length e] 24 (0, 0)) ∧ w'.heap[w.heap.size + 1]? = some (.cells #[.int .i64 6, .int .i64 u, .string p, .string q] 33 (0, 0)) ∧ w'.heap[w2.heap.size]? = some (.cells (A65 y) 65 (0, 0))) (ds := [9]) #[false, false, false, false, false, false, false, false, false, false, false] (by kernel_rfl) rfl rfl ⟨held, held, held⟩ (fun hHeld => ?_); refine with_tabW do25.tab25 do25.bits25 (fun HT_ HW_ => ?_)
        refine pure_ (i := 0) (N := some 154) (v := ?_) (a' := ?_) #[true, false, false, false, false, false, false, false, false, false, false] rfl rfl (any_of HT_.out (by kernel_rfl)) (fun _ _ _ h => h) (Or.inl ⟨by rfl, ?_⟩) ?_ ?_
        rotate_left
        · intro w'
          go_simp
          with_reducible rfl
        rotate_left
        · simp only [Act.put, List.setIfInBounds_toArray, List.set_cons_zero, List.set_cons_succ, i64_w, i32_w]
          rfl
        refine pure_ (i := 2) (N := some 156) (v := ?_) (a' := ?_) #[true, false, true, false, false, false, false, false, false, false, false] rfl rfl (any_of HT_.out (by kernel_rfl)) (fun _ _ _ h => h) (Or.inl ⟨by rfl, ?_⟩) ?_ ?_
        rotate_left
        · intro w'
          go_simp
          with_reducible rfl
        rotate_left
        · simp only [Act.put, List.setIfInBounds_toArray, List.set_cons_zero, List.set_cons_succ, i64_w, i32_w]
          rfl
        refine pure_ (i := 4) (N := some 158) (v := ?_) (a' := ?_) #[true, false, true, false, true, false, false, false, false, false, false] rfl rfl (any_of HT_.out (by kernel_rfl)) (fun _ _ _ h => h) (Or.inl ⟨by rfl, ?_⟩) ?_ ?_
        rotate_left
        · intro w'
          go_simp
          with_reducible rfl
        rotate_left
        · simp only [Act.put, List.setIfInBounds_toArray, List.set_cons_zero, List.set_cons_succ, i64_w, i32_w]
          rfl
        refine pure_ (i := 6) (N := some 160) (v := ?_) (a' := ?_) #[true, false, true, false, true, false, true, false, false, false, false] rfl rfl (any_of HT_.out (by kernel_rfl)) (fun _ _ _ h => h) (Or.inl ⟨by rfl, ?_⟩) ?_ ?_
        rotate_left
        · intro w'
          go_simp
          with_reducible rfl
        rotate_left
        · simp only [Act.put, List.setIfInBounds_toArray, List.set_cons_zero, List.set_cons_succ, i64_w, i32_w]
          rfl
        refine take_ (i := 1) (N := some 155) (v := ?_) (a' := ?_) #[true, true, true, false, true, false, true, false, false, false, false] rfl rfl (take_ofW HT_.out HW_.out (by kernel_rfl)) (fun _ _ _ h => h) (Or.inl ⟨by rfl, ?_⟩) hHeld ?_ ?_
        rotate_left
        · rintro w' ⟨s0, s1, s2⟩
          have i0 : Go.Proofs.YtjllbkeobibnkaaDoorK.Holds w' w.heap.size (.cells #[.slice A la.length c, .slice B lb.length d, .slice C lc.length e] 24) := ⟨s0⟩
          have i1 : Go.Proofs.YtjllbkeobibnkaaDoorK.Holds w' (w.heap.size + 1) (.cells #[.int .i64 6, .int .i64 u, .string p, .string q] 33) := ⟨s1⟩
          have i2 : Go.Proofs.YtjllbkeobibnkaaDoorK.Holds w' w2.heap.size (.cells (A65 y) 65) := ⟨s2⟩
          go_simp
          with_reducible rfl
        rotate_left
        · simp only [Act.put, List.setIfInBounds_toArray, List.set_cons_zero, List.set_cons_succ, i64_w, i32_w]
          rfl
        refine take_ (i := 5) (N := some 159) (v := ?_) (a' := ?_) #[true, true, true, false, true, true, true, false, false, false, false] rfl rfl (take_ofW HT_.out HW_.out (by kernel_rfl)) (fun _ _ _ h => h) (Or.inl ⟨by rfl, ?_⟩) hHeld ?_ ?_
        rotate_left
        · rintro w' ⟨s0, s1, s2⟩
          have i0 : Go.Proofs.YtjllbkeobibnkaaDoorK.Holds w' w.heap.size (.cells #[.slice A la.length c, .slice B lb.length d, .slice C lc.length e] 24) := ⟨s0⟩
          have i1 : Go.Proofs.YtjllbkeobibnkaaDoorK.Holds w' (w.heap.size + 1) (.cells #[.int .i64 6, .int .i64 u, .string p, .string q] 33) := ⟨s1⟩
          have i2 : Go.Proofs.YtjllbkeobibnkaaDoorK.Holds w' w2.heap.size (.cells (A65 y) 65) := ⟨s2⟩
          go_simp
          with_reducible rfl
        rotate_left
        · simp only [Act.put, List.setIfInBounds_toArray, List.set_cons_zero, List.set_cons_succ, i64_w, i32_w]
          rfl
        refine take_ (i := 7) (N := some 161) (v := ?_) (a' := ?_) #[true, true, true, false, true, true, true, true, false, false, false] rfl rfl (take_ofW HT_.out HW_.out (by kernel_rfl)) (fun _ _ _ h => h) (Or.inl ⟨by rfl, ?_⟩) hHeld ?_ ?_
        rotate_left
        · rintro w' ⟨s0, s1, s2⟩
          have i0 : Go.Proofs.YtjllbkeobibnkaaDoorK.Holds w' w.heap.size (.cells #[.slice A la.length c, .slice B lb.length d, .slice C lc.length e] 24) := ⟨s0⟩
          have i1 : Go.Proofs.YtjllbkeobibnkaaDoorK.Holds w' (w.heap.size + 1) (.cells #[.int .i64 6, .int .i64 u, .string p, .string q] 33) := ⟨s1⟩
          have i2 : Go.Proofs.YtjllbkeobibnkaaDoorK.Holds w' w2.heap.size (.cells (A65 y) 65) := ⟨s2⟩
          go_simp
          with_reducible rfl
        rotate_left
        · simp only [Act.put, List.setIfInBounds_toArray, List.set_cons_zero, List.set_cons_succ, i64_w, i32_w]
          rfl
        refine one_ (i := 3) (N := some 157) #[true, true, true, true, true, true, true, true, false, false, false] rfl rfl (one_of HT_.out (by kernel_rfl)) (by decide) (fun K hK => ?_)
        refine goes_ Tryd.func36 (by kernel_rfl) rfl #[.slice A la.length c, .string p] (by rfl) rfl rfl (by (try simp only [List.map_toArray, List.map_cons, List.map_nil]); first | done | rfl) ?_
        refine (HO0.out _ (bel _ _)).mono ?_
        rintro e4 w4 ⟨v4, rfl, hv, hb⟩
        have p4 := prev_call hb
        obtain ⟨X4, k4, rfl⟩ := Kd.R_slice hv
        have HV4 := Aside0.mk hv
        clear hb hv
        refine ⟨_, rfl, ?_⟩
        refine hK.out _ _ ⟨held, held, held⟩ (fun hHeld => ?_)
        clear hK K
        refine norm_ (a' := ?_) ?_ ?_
        rotate_left
        · show Act.put _ (some 157) _ = _
          simp only [Act.put, List.setIfInBounds_toArray, List.set_cons_zero, List.set_cons_succ, i64_w, i32_w]
          rfl
        refine pure_ (i := 8) (N := some 162) (v := ?_) (a' := ?_) #[true, true, true, true, true, true, true, true, true, false, false] rfl rfl (any_of HT_.out (by kernel_rfl)) (fun _ _ _ h => h) (Or.inl ⟨by rfl, ?_⟩) ?_ ?_
        rotate_left
        · intro w'
          go_simp
          with_reducible rfl
        rotate_left
        · simp only [Act.put, List.setIfInBounds_toArray, List.set_cons_zero, List.set_cons_succ, i64_w, i32_w]
          rfl
        refine last_ (i := 9) (N := none) #[true, true, true, true, true, true, true, true, true, true, false] rfl rfl (one_of HT_.out (by kernel_rfl)) (by decide) (fun K hK => ?_)
        refine box_skip (by rfl) rfl 24 (.tmp 6) (.tmp 162) rfl held #[.slice X4 (woS la p).length k4, .slice B lb.length d, .slice C lc.length e] rfl rfl info24 (by rfl) (by rfl) ?_
        intro w9 hx9 hg9
        have p9 := prev_row hg9
        have HZ := Aside0.mk hx9
        clear hx9 hg9
        refine hK.out _ _ ?_
        clear hK K
        refine pure_ (i := 10) (N := some 7) (v := ?_) (a' := ?_) #[true, true, true, true, true, true, true, true, true, true, true] rfl rfl (any_of HT_.out (by kernel_rfl)) (fun _ _ _ h => h) (Or.inl ⟨by rfl, ?_⟩) ?_ ?_
        rotate_left
        · intro w'
          go_simp
          with_reducible rfl
        rotate_left
        · simp only [Act.put, List.setIfInBounds_toArray, List.set_cons_zero, List.set_cons_succ, i64_w, i32_w]
          rfl
        refine done_ (done_of HT_.out (by kernel_rfl)) ?_
        go_wp2_with fail
        refine bodyPost_ret (results_row_tmp rfl _ _ (.int .i64 0) HZ.out rfl rfl Tryd.underlying24 rfl (by exact info24)) rfl ?_
        exact ⟨_, rfl, DoOut.of (.inr (Kd.R_lower (rowX HV4.out) (bel w _).size)) (.inl ⟨rfl, rfl⟩) (.inl ⟨rfl, rfl⟩), bel _ _⟩
    · · rw [if_neg (fun h => absurd h.1 (by decide))] at hr
        subst hr
        go_wp2_with fail
        refine start_ (n := 12) (S := fun w' => w'.heap[w.heap.size]? = some (.cells #[.slice A la.length c, .slice B lb.length d, .slice C lc.length e] 24 (0, 0)) ∧ w'.heap[w.heap.size + 1]? = some (.cells #[.int .i64 7, .int .i64 u, .string p, .string q] 33 (0, 0)) ∧ w'.heap[w2.heap.size]? = some (.cells (A65 y) 65 (0, 0))) (ds := []) #[false, false, false, false, false, false, false, false, false, false, false, false] (by kernel_rfl) rfl rfl ⟨held, held, held⟩ (fun hHeld => ?_); refine with_tabW do23.tab23 do23.bits23 (fun HT_ HW_ => ?_)
        refine pure_ (i := 0) (N := some 133) (v := ?_) (a' := ?_) #[true, false, false, false, false, false, false, false, false, false, false, false] rfl rfl (any_of HT_.out (by kernel_rfl)) (fun _ _ _ h => h) (Or.inl ⟨by rfl, ?_⟩) ?_ ?_
        rotate_left
        · intro w'
          go_simp
          with_reducible rfl
        rotate_left
        · simp only [Act.put, List.setIfInBounds_toArray, List.set_cons_zero, List.set_cons_succ, i64_w, i32_w]
          rfl
        refine pure_ (i := 2) (N := some 135) (v := ?_) (a' := ?_) #[true, false, true, false, false, false, false, false, false, false, false, false] rfl rfl (any_of HT_.out (by kernel_rfl)) (fun _ _ _ h => h) (Or.inl ⟨by rfl, ?_⟩) ?_ ?_
        rotate_left
        · intro w'
          go_simp
          with_reducible rfl
        rotate_left
        · simp only [Act.put, List.setIfInBounds_toArray, List.set_cons_zero, List.set_cons_succ, i64_w, i32_w]
          rfl
        refine pure_ (i := 4) (N := some 137) (v := ?_) (a' := ?_) #[true, false, true, false, true, false, false, false, false, false, false, false] rfl rfl (any_of HT_.out (by kernel_rfl)) (fun _ _ _ h => h) (Or.inl ⟨by rfl, ?_⟩) ?_ ?_
        rotate_left
        · intro w'
          go_simp
          with_reducible rfl
        rotate_left
        · simp only [Act.put, List.setIfInBounds_toArray, List.set_cons_zero, List.set_cons_succ, i64_w, i32_w]
          rfl
        refine pure_ (i := 7) (N := some 140) (v := ?_) (a' := ?_) #[true, false, true, false, true, false, false, true, false, false, false, false] rfl rfl (any_of HT_.out (by kernel_rfl)) (fun _ _ _ h => h) (Or.inl ⟨by rfl, ?_⟩) ?_ ?_
        rotate_left
        · intro w'
          go_simp
          with_reducible rfl
        rotate_left
        · simp only [Act.put, List.setIfInBounds_toArray, List.set_cons_zero, List.set_cons_succ, i64_w, i32_w]
          rfl
        refine pure_ (i := 8) (N := some 141) (v := ?_) (a' := ?_) #[true, false, true, false, true, false, false, true, true, false, false, false] rfl rfl (any_of HT_.out (by kernel_rfl)) (fun _ _ _ h => h) (Or.inl ⟨by rfl, ?_⟩) ?_ ?_
        rotate_left
        · intro w'
          go_simp
          with_reducible rfl
        rotate_left
        · simp only [Act.put, List.setIfInBounds_toArray, List.set_cons_zero, List.set_cons_succ, i64_w, i32_w]
          rfl
        refine take_ (i := 1) (N := some 134) (v := ?_) (a' := ?_) #[true, true, true, false, true, false, false, true, true, false, false, false] rfl rfl (take_ofW HT_.out HW_.out (by kernel_rfl)) (fun _ _ _ h => h) (Or.inl ⟨by rfl, ?_⟩) hHeld ?_ ?_
        rotate_left
        · rintro w' ⟨s0, s1, s2⟩
          have i0 : Go.Proofs.YtjllbkeobibnkaaDoorK.Holds w' w.heap.size (.cells #[.slice A la.length c, .slice B lb.length d, .slice C lc.length e] 24) := ⟨s0⟩
          have i1 : Go.Proofs.YtjllbkeobibnkaaDoorK.Holds w' (w.heap.size + 1) (.cells #[.int .i64 7, .int .i64 u, .string p, .string q] 33) := ⟨s1⟩
          have i2 : Go.Proofs.YtjllbkeobibnkaaDoorK.Holds w' w2.heap.size (.cells (A65 y) 65) := ⟨s2⟩
          go_simp
          with_reducible rfl
        rotate_left
        · simp only [Act.put, List.setIfInBounds_toArray, List.set_cons_zero, List.set_cons_succ, i64_w, i32_w]
          rfl
        refine take_ (i := 3) (N := some 136) (v := ?_) (a' := ?_) #[true, true, true, true, true, false, false, true, true, false, false, false] rfl rfl (take_ofW HT_.out HW_.out (by kernel_rfl)) (fun _ _ _ h => h) (Or.inl ⟨by rfl, ?_⟩) hHeld ?_ ?_
        rotate_left
        · rintro w' ⟨s0, s1, s2⟩
          have i0 : Go.Proofs.YtjllbkeobibnkaaDoorK.Holds w' w.heap.size (.cells #[.slice A la.length c, .slice B lb.length d, .slice C lc.length e] 24) := ⟨s0⟩
          have i1 : Go.Proofs.YtjllbkeobibnkaaDoorK.Holds w' (w.heap.size + 1) (.cells #[.int .i64 7, .int .i64 u, .string p, .string q] 33) := ⟨s1⟩
          have i2 : Go.Proofs.YtjllbkeobibnkaaDoorK.Holds w' w2.heap.size (.cells (A65 y) 65) := ⟨s2⟩
          go_simp
          with_reducible rfl
        rotate_left
        · simp only [Act.put, List.setIfInBounds_toArray, List.set_cons_zero, List.set_cons_succ, i64_w, i32_w]
          rfl
        refine take_ (i := 5) (N := some 138) (v := ?_) (a' := ?_) #[true, true, true, true, true, true, false, true, true, false, false, false] rfl rfl (take_ofW HT_.out HW_.out (by kernel_rfl)) (fun _ _ _ h => h) (Or.inl ⟨by rfl, ?_⟩) hHeld ?_ ?_
        rotate_left
        · rintro w' ⟨s0, s1, s2⟩
          have i0 : Go.Proofs.YtjllbkeobibnkaaDoorK.Holds w' w.heap.size (.cells #[.slice A la.length c, .slice B lb.length d, .slice C lc.length e] 24) := ⟨s0⟩
          have i1 : Go.Proofs.YtjllbkeobibnkaaDoorK.Holds w' (w.heap.size + 1) (.cells #[.int .i64 7, .int .i64 u, .string p, .string q] 33) := ⟨s1⟩
          have i2 : Go.Proofs.YtjllbkeobibnkaaDoorK.Holds w' w2.heap.size (.cells (A65 y) 65) := ⟨s2⟩
          go_simp
          with_reducible rfl
        rotate_left
        · simp only [Act.put, List.setIfInBounds_toArray, List.set_cons_zero, List.set_cons_succ, i64_w, i32_w]
          rfl
        refine take_ (i := 9) (N := some 142) (v := ?_) (a' := ?_) #[true, true, true, true, true, true, false, true, true, true, false, false] rfl rfl (take_ofW HT_.out HW_.out (by kernel_rfl)) (fun _ _ _ h => h) (Or.inl ⟨by rfl, ?_⟩) hHeld ?_ ?_
        rotate_left
        · rintro w' ⟨s0, s1, s2⟩
          have i0 : Go.Proofs.YtjllbkeobibnkaaDoorK.Holds w' w.heap.size (.cells #[.slice A la.length c, .slice B lb.length d, .slice C lc.length e] 24) := ⟨s0⟩
          have i1 : Go.Proofs.YtjllbkeobibnkaaDoorK.Holds w' (w.heap.size + 1) (.cells #[.int .i64 7, .int .i64 u, .string p, .string q] 33) := ⟨s1⟩
          have i2 : Go.Proofs.YtjllbkeobibnkaaDoorK.Holds w' w2.heap.size (.cells (A65 y) 65) := ⟨s2⟩
          go_simp
          with_reducible rfl
        rotate_left
        · simp only [Act.put, List.setIfInBounds_toArray, List.set_cons_zero, List.set_cons_succ, i64_w, i32_w]
          rfl
        refine one_ (i := 6) (N := some 139) #[true, true, true, true, true, true, true, true, true, true, false, false] rfl rfl (one_of HT_.out (by kernel_rfl)) (by decide) (fun K hK => ?_)
        refine goes_ Tryd.func35 (by kernel_rfl) rfl #[.slice B lb.length d, .string q, .agg (A51 y.l)] (by rfl) rfl rfl (by (try simp only [List.map_toArray, List.map_cons, List.map_nil]); first | done | rfl) ?_
        refine (HT.out _ (bel _ _) y.l).mono ?_
        rintro e4 w4 ⟨v4, rfl, hv, hb⟩
        have p4 := prev_call hb
        obtain ⟨X4, k4, rfl⟩ := Kd.R_slice hv
        have HV4 := Aside0.mk hv
        clear hb hv
        refine ⟨_, rfl, ?_⟩
        refine hK.out _ _ ⟨held, held, held⟩ (fun hHeld => ?_)
        clear hK K
        refine norm_ (a' := ?_) ?_ ?_
        rotate_left
        · show Act.put _ (some 139) _ = _
          simp only [Act.put, List.setIfInBounds_toArray, List.set_cons_zero, List.set_cons_succ, i64_w, i32_w]
          rfl
        refine one_ (i := 10) (N := some 143) #[true, true, true, true, true, true, true, true, true, true, true, false] rfl rfl (one_of HT_.out (by kernel_rfl)) (by decide) (fun K hK => ?_)
        refine goes_ Tryd.func35 (by kernel_rfl) rfl #[.slice X4 (withS lb q y.l).length k4, .string p, .agg (A51 y.r)] (by rfl) rfl rfl (by (try simp only [List.map_toArray, List.map_cons, List.map_nil]); first | done | rfl) ?_
        refine (HTT.out _ _ _ y.l y.r (Kd.R_reads' HV4.out).2.2 (Kd.R_reads' HV4.out).2.1).mono ?_
        rintro e5 w5 ⟨v5, rfl, hv, hb⟩
        have p5 := prev_call hb
        obtain ⟨X5, k5, rfl⟩ := Kd.R_slice hv
        have HV5 := Aside0.mk hv
        clear hb hv
        refine ⟨_, rfl, ?_⟩
        refine hK.out _ _ ⟨held, held, held⟩ (fun hHeld => ?_)
        clear hK K
        refine norm_ (a' := ?_) ?_ ?_
        rotate_left
        · show Act.put _ (some 143) _ = _
          simp only [Act.put, List.setIfInBounds_toArray, List.set_cons_zero, List.set_cons_succ, i64_w, i32_w]
          rfl
        refine pure_ (i := 11) (N := some 10) (v := ?_) (a' := ?_) #[true, true, true, true, true, true, true, true, true, true, true, true] rfl rfl (any_of HT_.out (by kernel_rfl)) (fun _ _ _ h => h) (Or.inl ⟨by rfl, ?_⟩) ?_ ?_
        rotate_left
        · intro w'
          go_simp
          with_reducible rfl
        rotate_left
        · simp only [Act.put, List.setIfInBounds_toArray, List.set_cons_zero, List.set_cons_succ, i64_w, i32_w]
          rfl
        refine done_ (done_of HT_.out (by kernel_rfl)) ?_
        go_wp2_with fail
        refine start_ (n := 12) (S := fun w' => w'.heap[w.heap.size]? = some (.cells #[.slice A la.length c, .slice B lb.length d, .slice C lc.length e] 24 (0, 0)) ∧ w'.heap[w.heap.size + 1]? = some (.cells #[.int .i64 7, .int .i64 u, .string p, .string q] 33 (0, 0)) ∧ w'.heap[w2.heap.size]? = some (.cells (A65 y) 65 (0, 0))) (ds := [10]) #[false, false, false, false, false, false, false, false, false, false, false, false] (by kernel_rfl) rfl rfl ⟨held, held, held⟩ (fun hHeld => ?_); refine with_tabW do24.tab24 do24.bits24 (fun HT_ HW_ => ?_)
        refine pure_ (i := 0) (N := some 144) (v := ?_) (a' := ?_) #[true, false, false, false, false, false, false, false, false, false, false, false] rfl rfl (any_of HT_.out (by kernel_rfl)) (fun _ _ _ h => h) (Or.inl ⟨by rfl, ?_⟩) ?_ ?_
        rotate_left
        · intro w'
          go_simp
          with_reducible rfl
        rotate_left
        · simp only [Act.put, List.setIfInBounds_toArray, List.set_cons_zero, List.set_cons_succ, i64_w, i32_w]
          rfl
        refine pure_ (i := 2) (N := some 146) (v := ?_) (a' := ?_) #[true, false, true, false, false, false, false, false, false, false, false, false] rfl rfl (any_of HT_.out (by kernel_rfl)) (fun _ _ _ h => h) (Or.inl ⟨by rfl, ?_⟩) ?_ ?_
        rotate_left
        · intro w'
          go_simp
          with_reducible rfl
        rotate_left
        · simp only [Act.put, List.setIfInBounds_toArray, List.set_cons_zero, List.set_cons_succ, i64_w, i32_w]
          rfl
        refine pure_ (i := 3) (N := some 147) (v := ?_) (a' := ?_) #[true, false, true, true, false, false, false, false, false, false, false, false] rfl rfl (any_of HT_.out (by kernel_rfl)) (fun _ _ _ h => h) (Or.inl ⟨by rfl, ?_⟩) ?_ ?_
        rotate_left
        · intro w'
          go_simp
          with_reducible rfl
        rotate_left
        · simp only [Act.put, List.setIfInBounds_toArray, List.set_cons_zero, List.set_cons_succ, i64_w, i32_w]
          rfl
        refine pure_ (i := 6) (N := some 150) (v := ?_) (a' := ?_) #[true, false, true, true, false, false, true, false, false, false, false, false] rfl rfl (any_of HT_.out (by kernel_rfl)) (fun _ _ _ h => h) (Or.inl ⟨by rfl, ?_⟩) ?_ ?_
        rotate_left
        · intro w'
          go_simp
          with_reducible rfl
        rotate_left
        · simp only [Act.put, List.setIfInBounds_toArray, List.set_cons_zero, List.set_cons_succ, i64_w, i32_w]
          rfl
        refine pure_ (i := 7) (N := some 151) (v := ?_) (a' := ?_) #[true, false, true, true, false, false, true, true, false, false, false, false] rfl rfl (any_of HT_.out (by kernel_rfl)) (fun _ _ _ h => h) (Or.inl ⟨by rfl, ?_⟩) ?_ ?_
        rotate_left
        · intro w'
          go_simp
          with_reducible rfl
        rotate_left
        · simp only [Act.put, List.setIfInBounds_toArray, List.set_cons_zero, List.set_cons_succ, i64_w, i32_w]
          rfl
        refine take_ (i := 1) (N := some 145) (v := ?_) (a' := ?_) #[true, true, true, true, false, false, true, true, false, false, false, false] rfl rfl (take_ofW HT_.out HW_.out (by kernel_rfl)) (fun _ _ _ h => h) (Or.inl ⟨by rfl, ?_⟩) hHeld ?_ ?_
        rotate_left
        · rintro w' ⟨s0, s1, s2⟩
          have i0 : Go.Proofs.YtjllbkeobibnkaaDoorK.Holds w' w.heap.size (.cells #[.slice A la.length c, .slice B lb.length d, .slice C lc.length e] 24) := ⟨s0⟩
          have i1 : Go.Proofs.YtjllbkeobibnkaaDoorK.Holds w' (w.heap.size + 1) (.cells #[.int .i64 7, .int .i64 u, .string p, .string q] 33) := ⟨s1⟩
          have i2 : Go.Proofs.YtjllbkeobibnkaaDoorK.Holds w' w2.heap.size (.cells (A65 y) 65) := ⟨s2⟩
          go_simp
          with_reducible rfl
        rotate_left
        · simp only [Act.put, List.setIfInBounds_toArray, List.set_cons_zero, List.set_cons_succ, i64_w, i32_w]
          rfl
        refine take_ (i := 4) (N := some 148) (v := ?_) (a' := ?_) #[true, true, true, true, true, false, true, true, false, false, false, false] rfl rfl (take_ofW HT_.out HW_.out (by kernel_rfl)) (fun _ _ _ h => h) (Or.inl ⟨by rfl, ?_⟩) hHeld ?_ ?_
        rotate_left
        · rintro w' ⟨s0, s1, s2⟩
          have i0 : Go.Proofs.YtjllbkeobibnkaaDoorK.Holds w' w.heap.size (.cells #[.slice A la.length c, .slice B lb.length d, .slice C lc.length e] 24) := ⟨s0⟩
          have i1 : Go.Proofs.YtjllbkeobibnkaaDoorK.Holds w' (w.heap.size + 1) (.cells #[.int .i64 7, .int .i64 u, .string p, .string q] 33) := ⟨s1⟩
          have i2 : Go.Proofs.YtjllbkeobibnkaaDoorK.Holds w' w2.heap.size (.cells (A65 y) 65) := ⟨s2⟩
          go_simp
          with_reducible rfl
        rotate_left
        · simp only [Act.put, List.setIfInBounds_toArray, List.set_cons_zero, List.set_cons_succ, i64_w, i32_w]
          rfl
        refine take_ (i := 8) (N := some 152) (v := ?_) (a' := ?_) #[true, true, true, true, true, false, true, true, true, false, false, false] rfl rfl (take_ofW HT_.out HW_.out (by kernel_rfl)) (fun _ _ _ h => h) (Or.inl ⟨by rfl, ?_⟩) hHeld ?_ ?_
        rotate_left
        · rintro w' ⟨s0, s1, s2⟩
          have i0 : Go.Proofs.YtjllbkeobibnkaaDoorK.Holds w' w.heap.size (.cells #[.slice A la.length c, .slice B lb.length d, .slice C lc.length e] 24) := ⟨s0⟩
          have i1 : Go.Proofs.YtjllbkeobibnkaaDoorK.Holds w' (w.heap.size + 1) (.cells #[.int .i64 7, .int .i64 u, .string p, .string q] 33) := ⟨s1⟩
          have i2 : Go.Proofs.YtjllbkeobibnkaaDoorK.Holds w' w2.heap.size (.cells (A65 y) 65) := ⟨s2⟩
          go_simp
          with_reducible rfl
        rotate_left
        · simp only [Act.put, List.setIfInBounds_toArray, List.set_cons_zero, List.set_cons_succ, i64_w, i32_w]
          rfl
        refine one_ (i := 5) (N := some 149) #[true, true, true, true, true, true, true, true, true, false, false, false] rfl rfl (one_of HT_.out (by kernel_rfl)) (by decide) (fun K hK => ?_)
        refine goes_ Tryd.func35 (by kernel_rfl) rfl #[.slice A la.length c, .string p, .agg (A51 y.r)] (by rfl) rfl rfl (by (try simp only [List.map_toArray, List.map_cons, List.map_nil]); first | done | rfl) ?_
        refine (HW0.out _ (bel _ _) (y.r)).mono ?_
        rintro e6 w6 ⟨v6, rfl, hv, hb⟩
        have p6 := prev_call hb
        obtain ⟨X6, k6, rfl⟩ := Kd.R_slice hv
        have HV6 := Aside0.mk hv
        clear hb hv
        refine ⟨_, rfl, ?_⟩
        refine hK.out _ _ ⟨held, held, held⟩ (fun hHeld => ?_)
        clear hK K
        refine norm_ (a' := ?_) ?_ ?_
        rotate_left
        · show Act.put _ (some 149) _ = _
          simp only [Act.put, List.setIfInBounds_toArray, List.set_cons_zero, List.set_cons_succ, i64_w, i32_w]
          rfl
        refine pure_ (i := 9) (N := some 153) (v := ?_) (a' := ?_) #[true, true, true, true, true, true, true, true, true, true, false, false] rfl rfl (any_of HT_.out (by kernel_rfl)) (fun _ _ _ h => h) (Or.inl ⟨by rfl, ?_⟩) ?_ ?_
        rotate_left
        · intro w'
          go_simp
          with_reducible rfl
        rotate_left
        · simp only [Act.put, List.setIfInBounds_toArray, List.set_cons_zero, List.set_cons_succ, i64_w, i32_w]
          rfl
        refine last_ (i := 10) (N := none) #[true, true, true, true, true, true, true, true, true, true, true, false] rfl rfl (one_of HT_.out (by kernel_rfl)) (by decide) (fun K hK => ?_)
        refine box_skip (by rfl) rfl 24 (.tmp 6) (.tmp 153) rfl held #[.slice X6 (withS la p y.r).length k6, .slice X5 (withS (withS lb q y.l) p y.r).length k5, .slice C lc.length e] rfl rfl info24 (by rfl) (by rfl) ?_
        intro w9 hx9 hg9
        have p9 := prev_row hg9
        have HZ := Aside0.mk hx9
        clear hx9 hg9
        refine hK.out _ _ ?_
        clear hK K
        refine pure_ (i := 11) (N := some 7) (v := ?_) (a' := ?_) #[true, true, true, true, true, true, true, true, true, true, true, true] rfl rfl (any_of HT_.out (by kernel_rfl)) (fun _ _ _ h => h) (Or.inl ⟨by rfl, ?_⟩) ?_ ?_
        rotate_left
        · intro w'
          go_simp
          with_reducible rfl
        rotate_left
        · simp only [Act.put, List.setIfInBounds_toArray, List.set_cons_zero, List.set_cons_succ, i64_w, i32_w]
          rfl
        refine done_ (done_of HT_.out (by kernel_rfl)) ?_
        go_wp2_with fail
        refine bodyPost_ret (results_row_tmp rfl _ _ (.int .i64 0) HZ.out rfl rfl Tryd.underlying24 rfl (by exact info24)) rfl ?_
        exact ⟨_, rfl, DoOut.of (.inr (Kd.R_lower (rowX HV6.out) (bel w _).size)) (.inr (Kd.R_lower (rowX HV5.out) (bel w _).size)) (.inl ⟨rfl, rfl⟩), bel _ _⟩
end Go.Proofs.YtjllbkeobibnkaaDoor.Q
