/- Parts of the proof: Q13, Q14, Q15, Q16, Q17, PRefM, HList, HMerge, HBsf, HConc, KX, HWith, HSw58. -/
import Derived.Test.YtjllbkeobibnkaaDoorZD1
import Derived.StillTailTactics
import Derived.BigQuiet
import Derived.Deep.MidRow
set_option linter.unusedVariables false
set_option linter.unusedSimpArgs false
namespace Go.Proofs.YtjllbkeobibnkaaDoor.Q
open Go.RowKit Go.Proofs.YtjllbkeobibnkaaDoorW.PrintWords Go.Proofs.YtjllbkeobibnkaaDoorW.PrintLast Go.Proofs.YtjllbkeobibnkaaDoorW.PrintMore Go.Proofs.YtjllbkeobibnkaaDoorK
attribute [local go_sem] max2_int min2_int max_two min_two max_three min_three max_four min_four   -- for this text's walks alone
attribute [local go_sem ↓] Go.Proofs.YtjllbkeobibnkaaDoorK.isSome_setCell
set_option linter.unusedVariables false
set_option linter.unusedSimpArgs false

/-! ### aquiferref05_Names: function 84 -/
def aquiferref05_Names.l0 : Nat → ByteArray → List ByteArray → Int → Option (List ByteArray)
  | 0, _, _, _ => none
  | k + 1, x0, x3, x4 => if x4 < (x0.size : Int) then (if 0 ≤ x4 then (if (bt x0 x4) = 47 then (if x3.length < 8796093022208 then (aquiferref05_Names.l0 k x0 (x3 ++ [(⟨#[]⟩ : ByteArray)]) (wrap64 (x4 + 1))) else (none)) else (if 0 ≤ (wrap64 ((x3.length : Int) - 1)) then (if (wrap64 ((x3.length : Int) - 1)) < (x3.length : Int) then (if x4 ≤ (wrap64 (x4 + 1)) then (if (wrap64 (x4 + 1)) ≤ (x0.size : Int) then (if (rdOf ByteArray.empty x3 (wrap64 ((x3.length : Int) - 1))).size + (x0.extract (x4 : Int).toNat ((wrap64 (x4 + 1)) : Int).toNat).size ≤ 9223372036854775807 then (aquiferref05_Names.l0 k x0 (x3.set ((wrap64 ((x3.length : Int) - 1)) : Int).toNat ((rdOf ByteArray.empty x3 (wrap64 ((x3.length : Int) - 1))) ++ (x0.extract (x4 : Int).toNat ((wrap64 (x4 + 1)) : Int).toNat))) (wrap64 (x4 + 1))) else (none)) else (none)) else (none)) else (none)) else (none))) else (none)) else (some x3)
def aquiferref05_Names.f (k : Nat) (a0 : ByteArray) : Option (List ByteArray) := aquiferref05_Names.l0 k a0 (([(⟨#[]⟩ : ByteArray)] : List ByteArray)) 0
theorem aquiferref05_Names.mono_l : ∀ k, (∀ y0 y1 y2, LeO (aquiferref05_Names.l0 k y0 y1 y2) (aquiferref05_Names.l0 (k + 1) y0 y1 y2))
  | 0 => fun _ _ _ r h => by simp [aquiferref05_Names.l0] at h
  | k + 1 => by
    have ih0 := aquiferref05_Names.mono_l k
    · intro y0 y1 y2
      unfold aquiferref05_Names.l0
      repeat' first
      | (with_reducible exact ih0 _ _ _)
      | (with_reducible exact LeO.refl _)
      | (with_reducible exact LeO.none _)
      | (with_reducible refine LeO.ite ?_ ?_)
      | (with_reducible refine LeO.bind ?_ (fun _ => ?_))
      | exact ih0 _ _ _
      | exact LeO.none _
      | refine LeO.ite ?_ ?_
      | refine LeO.bind ?_ (fun _ => ?_)
theorem aquiferref05_Names.mono : ∀ a0 k, LeO (aquiferref05_Names.f k a0) (aquiferref05_Names.f (k + 1) a0) := by
  intro a0 k
  have ih0 := aquiferref05_Names.mono_l k
  unfold aquiferref05_Names.f
  repeat' first
      | (with_reducible exact ih0 _ _ _)
      | (with_reducible exact LeO.refl _)
      | (with_reducible exact LeO.none _)
      | (with_reducible refine LeO.ite ?_ ?_)
      | (with_reducible refine LeO.bind ?_ (fun _ => ?_))
      | exact ih0 _ _ _
      | exact LeO.none _
      | refine LeO.ite ?_ ?_
      | refine LeO.bind ?_ (fun _ => ?_)
def aquiferref05_Names.T7 : Bool × List (List Nat × List Nat) := (true, [([], []), ([], []), ([1], [1]), ([2], [2]), ([], []), ([], []), ([5], [5]), ([6], [6]), ([4, 7], [4, 7]), ([8], [8]), ([], []), ([], []), ([], []), ([12], [12]), ([10, 11, 13], [10, 11, 13]), ([9, 14], [9, 14]), ([0, 3, 0, 1, 2, 3, 4, 5, 6, 7, 8, 9, 10, 11, 12, 13, 14, 15], [0, 3]), ([16, 15, 0, 1, 2, 3, 4, 5, 6, 7, 8, 9, 10, 11, 12, 13, 14, 15], [15, 16])])
def aquiferref05_Names.B7 : List Nat := [0, 0, 2, 6, 0, 0, 32, 96, 240, 496, 0, 0, 0, 4096, 15360, 32752, 65535, 131071]
theorem aquiferref05_Names.tab7 : rtab .any (opsOf Tryd.f84 7) = aquiferref05_Names.T7 := by kernel_rfl
theorem aquiferref05_Names.bits7 : waitsOk aquiferref05_Names.T7.2 aquiferref05_Names.B7 = true := by kernel_rfl
set_option maxHeartbeats 8000000 in
set_option maxRecDepth 100000 in
theorem aquiferref05_Names.calls (k : Nat) (a0 : ByteArray) (r : List ByteArray) (w : World) (h : aquiferref05_Names.f k a0 = some r) :
    Calls Tryd.prog 84 #[.string a0] w fun e w' => ∃ v0_ : Value, e = .returned (v0_) ∧ Kd.R Kd.string 9 w' w.heap.size (fun _ => True) v0_ r ∧ Below w.heap.size w w' := by
  have HB := Aside0.mk (Below.refl w.heap.size w)
  have H : (aquiferref05_Names.l0 k a0 (([(⟨#[]⟩ : ByteArray)] : List ByteArray)) 0) = some r := h
  clear h
  obtain ⟨y101, hy101⟩ : ∃ y_ : List ByteArray, y_ = (([(⟨#[]⟩ : ByteArray)] : List ByteArray)) := ⟨_, rfl⟩
  replace H : (aquiferref05_Names.l0 k a0 y101 0) = some r := by first | (rw [hy101]; with_reducible exact H) | (have H2_ := (Option.bind_some _ _).symm.trans H; rw [hy101]; with_reducible exact H2_) | (have H2_ := (Option.bind_some _ _).symm.trans H; with_reducible exact H2_) | with_reducible exact H | (rw [hy101]; exact H) | exact H
  have Ny101 := Aside0.mk hy101
  clear hy101
  have H' := Aside0.mk H
  clear H
  go_enter Tryd.func84, Tryd.ntmps84
  go_wp2_with (first | ((with_reducible refine gate_dst (N := 5) rfl ?_); refine Kd.R_lit Kd.string _ 9 ?hg (N := 5) ?hd (xs := ([(⟨#[]⟩ : ByteArray)] : List ByteArray)) (inner := [.string (⟨#[]⟩ : ByteArray)]) (ok := fun _ => True) (okp := fun _ => True) ?hr ?hp (fun _ hk => hk) trivial (Below.refl _ _) (Nat.le_refl _) (by simp) ?_; (case hd => rfl); (case hg => rfl); (case hr => first | (go_simp; done) | (go_simp; rfl)); (case hp => exact (Reps.one (show Kd.M Kd.string _ _ _ (⟨#[]⟩ : ByteArray) [.string (⟨#[]⟩ : ByteArray)] from rfl) (Reps.none _ _))); intro v102 w2 ho3 hb hg_ hnew_; clear hg_ hnew_; (first | rw [← Ny101.out] at ho3 | (simp only [Int.reduceToNat] at ho3; rw [← Ny101.out] at ho3)); have n0_ := Aside0.mk (Kd.R_lower ho3 (sizU HB.out)); have n1_ := Aside0.mk (below_step (belU HB.out) hb); clear HB; have HO103 := n0_; have HB := n1_; clear n0_ n1_; clear hb ho3))
  go_loopg [3, 4] k (fun kq v3 v4 w' => ∃ (x3_1 : List ByteArray) (x4_1 : Int), v4 = .int .i64 x4_1 ∧ Aside0 (aquiferref05_Names.l0 kq a0 x3_1 x4_1 = some r) ∧ Aside0 (kq ≤ k) ∧ Aside0 (Kd.R Kd.string 9 w' w.heap.size (fun _ => True) v3 x3_1) ∧ Aside0 (Below w.heap.size w w'))
  case atStart => exact ⟨(y101), (0), (by first | rfl | (simp; done) | (simp [*]; done)), H', ⟨Nat.le_refl _⟩, ⟨RU HO103.out⟩, ⟨belU HB.out⟩⟩
  case round =>
    clear H'
    try clear p2
    obtain ⟨x3_1, x4_1, rfl, HA, HK1, HO_3, HB⟩ := hrel
    cases gk with
    | zero => exact absurd HA.out (by simp [aquiferref05_Names.l0])
    | succ k1 =>
      have H := HA.out
      clear HA
      simp only [aquiferref05_Names.l0] at H
      by_cases c4 : x4_1 < (a0.size : Int)
      · rw [if_pos c4] at H
        have c4b0 : decide (x4_1 < (a0.size : Int)) = true := decide_eq_true c4
        clear c4
        by_cases c5 : 0 ≤ x4_1
        · rw [if_pos c5] at H
          have c5b0 : decide (0 ≤ x4_1) = true := decide_eq_true c5
          clear c5
          by_cases c7 : (bt a0 x4_1) = 47
          · rw [if_pos c7] at H
            have c7b0 : ((bt a0 x4_1) == 47) = true := beq_iff_eq.mpr c7
            have c7b1 : ((bt a0 x4_1) != 47) = false := bne_eq_false_iff_eq.mpr c7
            clear c7
            by_cases c8 : x3_1.length < 8796093022208
            · rw [if_pos c8] at H
              have LMc8 := Aside0.mk c8
              clear c8
              obtain ⟨y104, hy104⟩ : ∃ y_ : List ByteArray, y_ = (x3_1 ++ [(⟨#[]⟩ : ByteArray)]) := ⟨_, rfl⟩
              replace H : (aquiferref05_Names.l0 k1 a0 y104 (wrap64 (x4_1 + 1))) = some r := by first | (rw [hy104]; with_reducible exact H) | (have H2_ := (Option.bind_some _ _).symm.trans H; rw [hy104]; with_reducible exact H2_) | (have H2_ := (Option.bind_some _ _).symm.trans H; with_reducible exact H2_) | with_reducible exact H | (rw [hy104]; exact H) | exact H
              have Ny104 := Aside0.mk hy104
              clear hy104
              have H' := Aside0.mk H
              clear H
              have p6 : 0 ≤ (x4_1 : Int) := of_decide_eq_true (by first | (with_reducible assumption) | assumption)
              have q6 : x4_1 < (a0.size : Int) := of_decide_eq_true (by first | (with_reducible assumption) | assumption)
              have hx6 := bt_at a0 x4_1
              replace p6 := eq_true p6
              replace q6 := eq_true q6
              go_wp2_with (first | ((with_reducible refine gate_builtin (b := .append) (xs := #[.tmp 16, .tmp 17]) rfl ?_); at_builtin; refine Kd.R_append Kd.string (w0 := w) w.heap.size rfl (.tmp 16) (.tmp 17) 41 9 (.string ⟨#[]⟩) 16 rfl Tryd.underlying41 info9 rfl (by decide) (by omega) u3 x3_1 (⟨#[]⟩ : ByteArray) [.string (⟨#[]⟩ : ByteArray)] (fun _ => True) (fun _ => False) rfl rfl ?aP (fun _ hk => hk.elim) ?aF ?aO ?aB ?aS ?aL ?_; (case aP => exact rfl); (case aB => exact (belU HB.out)); (case aF => exact (fun _ _ => trivial)); (case aO => exact (RU HO_3.out)); (case aS => exact (sizU HB.out)); (case aL => have := LMc8.out; omega); intro v105 w9 ho hb hg hat; rw [← Ny104.out] at ho; have n0_ := Aside0.mk (hb); have n1_ := Aside0.mk (ho); clear HB; clear HO_3; have HB := n0_; have HO106 := n1_; clear n0_ n1_; clear ho hb hg hat))
              go_roundg k1
              case measure => have := HK1.out; omega
              case rel => exact ⟨(y104), (wrap64 (x4_1 + 1)), (by first | rfl | (simp; done) | (simp [*]; done)), H', ⟨by have := HK1.out; omega⟩, ⟨RU HO106.out⟩, ⟨belU HB.out⟩⟩
            · rw [if_neg c8] at H
              exact absurd H (by simp)
          · rw [if_neg c7] at H
            have c7b0 : ((bt a0 x4_1) == 47) = false := beq_eq_false_iff_ne.mpr c7
            have c7b1 : ((bt a0 x4_1) != 47) = true := bne_iff_ne.mpr c7
            obtain ⟨ji10, hji10⟩ : ∃ j_ : Int, (wrap64 ((x3_1.length : Int) - 1)) = j_ := ⟨_, rfl⟩
            replace H : (if 0 ≤ (ji10) then (if (ji10) < (x3_1.length : Int) then (if x4_1 ≤ (wrap64 (x4_1 + 1)) then (if (wrap64 (x4_1 + 1)) ≤ (a0.size : Int) then (if (rdOf ByteArray.empty x3_1 (ji10)).size + (a0.extract (x4_1 : Int).toNat ((wrap64 (x4_1 + 1)) : Int).toNat).size ≤ 9223372036854775807 then (aquiferref05_Names.l0 k1 a0 (x3_1.set ((ji10) : Int).toNat ((rdOf ByteArray.empty x3_1 (ji10)) ++ (a0.extract (x4_1 : Int).toNat ((wrap64 (x4_1 + 1)) : Int).toNat))) (wrap64 (x4_1 + 1))) else (none)) else (none)) else (none)) else (none)) else (none)) = some r := by first | (rw [hji10] at H; exact H) | (simp only [hji10] at H ⊢; exact H)
            have hji10w : (IntKind.i64.wrap ((x3_1.length : Int) - 1)) = ji10 := (i64_w _).trans hji10
            by_cases c11 : 0 ≤ (ji10)
            · rw [if_pos c11] at H
              have c11b0 : decide (0 ≤ (ji10)) = true := decide_eq_true c11
              clear c11
              by_cases c12 : (ji10) < (x3_1.length : Int)
              · rw [if_pos c12] at H
                have c12b0 : decide ((ji10) < (x3_1.length : Int)) = true := decide_eq_true c12
                clear c12
                have c13b0 := eq_true (of_decide_eq_true (by first | (with_reducible assumption) | assumption) : 0 ≤ x4_1)
                by_cases c14 : x4_1 ≤ (wrap64 (x4_1 + 1))
                · rw [if_pos c14] at H
                  have c14b0 := eq_true c14
                  have c14b1 : decide (x4_1 ≤ (wrap64 (x4_1 + 1))) = true := decide_eq_true c14
                  by_cases c15 : (wrap64 (x4_1 + 1)) ≤ (a0.size : Int)
                  · rw [if_pos c15] at H
                    have c15b0 := eq_true c15
                    have c15b1 : decide ((wrap64 (x4_1 + 1)) ≤ (a0.size : Int)) = true := decide_eq_true c15
                    by_cases c16 : (rdOf ByteArray.empty x3_1 (ji10)).size + (a0.extract (x4_1 : Int).toNat ((wrap64 (x4_1 + 1)) : Int).toNat).size ≤ 9223372036854775807
                    · rw [if_pos c16] at H
                      have c16b0 := eq_true c16
                      have c16b1 : decide ((rdOf ByteArray.empty x3_1 (ji10)).size + (a0.extract (x4_1 : Int).toNat ((wrap64 (x4_1 + 1)) : Int).toNat).size ≤ 9223372036854775807) = true := decide_eq_true c16
                      try have c16b2 : (9223372036854775807 < (rdOf ByteArray.empty x3_1 (ji10)).size + (a0.extract (x4_1 : Int).toNat ((wrap64 (x4_1 + 1)) : Int).toNat).size) = False := eq_false (Nat.not_lt.2 c16)
                      try have c16b3 : (9223372036854775807 < (rdOf ByteArray.empty x3_1 (ji10)).size + (((wrap64 (x4_1 + 1)) : Int).toNat - (x4_1 : Int).toNat)) = False := eq_false (by have h_ := c16; simp only [ByteArray.size_extract] at h_; omega)
                      obtain ⟨y108, hy108⟩ : ∃ y_ : List ByteArray, y_ = (x3_1.set ((ji10) : Int).toNat ((rdOf ByteArray.empty x3_1 (ji10)) ++ (a0.extract (x4_1 : Int).toNat ((wrap64 (x4_1 + 1)) : Int).toNat))) := ⟨_, rfl⟩
                      replace H : (aquiferref05_Names.l0 k1 a0 y108 (wrap64 (x4_1 + 1))) = some r := by first | (rw [hy108]; with_reducible exact H) | (have H2_ := (Option.bind_some _ _).symm.trans H; rw [hy108]; with_reducible exact H2_) | (have H2_ := (Option.bind_some _ _).symm.trans H; with_reducible exact H2_) | with_reducible exact H | (rw [hy108]; exact H) | exact H
                      have Ny108 := Aside0.mk hy108
                      clear hy108
                      have H' := Aside0.mk H
                      clear H
                      have p6 : 0 ≤ (x4_1 : Int) := of_decide_eq_true (by first | (with_reducible assumption) | assumption)
                      have q6 : x4_1 < (a0.size : Int) := of_decide_eq_true (by first | (with_reducible assumption) | assumption)
                      have hx6 := bt_at a0 x4_1
                      replace p6 := eq_true p6
                      replace q6 := eq_true q6
                      try go_wp2
                      have n0_ := Aside0.mk (Kd.R_drew HO_3.out)
                      have n1_ := Aside0.mk (below_drew1 HB.out)
                      clear HO_3
                      clear HB
                      have HO_3 := n0_
                      have HB := n1_
                      clear n0_ n1_
                      obtain ⟨Ao19, co19, eo19⟩ := Kd.R_slice HO_3.out
                      (first | subst eo19 | (injection eo19 with f1_ f2_ f3_; have f4_ := f1_.symm; have f5_ := f3_.symm; clear f1_ f2_ f3_; subst f4_; subst f5_))
                      have p107 : 0 ≤ ((ji10) : Int) := of_decide_eq_true (by first | (with_reducible assumption) | assumption)
                      have q107 : (ji10) < (x3_1.length : Int) := of_decide_eq_true (by first | (with_reducible assumption) | assumption)
                      obtain ⟨ad107, e107, hx107_0⟩ := Kd.at_string (Kd.R_reads' HO_3.out).2.2 (ji10) p107 q107
                      cases e107
                      replace p107 := eq_true p107
                      replace q107 := eq_true q107
                      have p17 : 0 ≤ ((ji10) : Int) := of_decide_eq_true (by first | (with_reducible assumption) | assumption)
                      have q17 : ((ji10) : Int) < ((x3_1.length : Int) : Int) := of_decide_eq_true (by first | (with_reducible assumption) | assumption)
                      obtain ⟨go17, co17, eo17, gb17, gl17, cl17, HG17⟩ := Kd.R_form HO_3.out (by omega)
                      (first | cases eo17 | (injection eo17 with ea_ en_ ec_; (first | subst ea_ | (injection ea_ with ea_; subst ea_)); subst ec_; clear en_))
                      have GB17 := Aside0.mk gb17
                      have GG17 := Aside0.mk HG17
                      clear gb17 gl17 HG17
                      (first | simp only [add_plain] at hx107_0 | skip)
                      obtain ⟨hx17_0, hf17_0⟩ := Kd.R_celln (⟨#[]⟩ : ByteArray) HO_3.out ((ji10) : Int) p17 q17
                      replace p17 := eq_true p17
                      replace q17 := eq_true q17
                      have HP20 := Kd.R_putn HO_3.out ((ji10) : Int) ((rdOf ByteArray.empty x3_1 (ji10)) ++ (a0.extract (x4_1 : Int).toNat ((wrap64 (x4_1 + 1)) : Int).toNat))
                      rw [← Ny108.out] at HP20
                      have HQ20 := Aside0.mk HP20
                      clear HP20
                      refine start_ (n := 18) (S := fun w' => w'.cell? ⟨go17, ((ji10)).toNat, none⟩ = some (.string (rdOf ByteArray.empty x3_1 (ji10)))) (ds := [17]) #[false, false, false, false, false, false, false, false, false, false, false, false, false, false, false, false, false, false] (by kernel_rfl) rfl rfl (hx107_0) (fun hHeld => ?_); refine with_tabW aquiferref05_Names.tab7 aquiferref05_Names.bits7 (fun HT_ HW_ => ?_)
                      generalize wr.drew = w18 at HO_3 HB GG17 HQ20 hf17_0 hx107_0 hx17_0 hHeld ⊢
                      refine pure_ (i := 0) (N := some 19) (v := ?_) (a' := ?_) #[true, false, false, false, false, false, false, false, false, false, false, false, false, false, false, false, false, false] rfl rfl (any_of HT_.out (by kernel_rfl)) (fun _ _ _ h => h) (Or.inl ⟨by rfl, ?_⟩) ?_ ?_
                      rotate_left
                      · intro w'
                        go_simp
                        with_reducible rfl
                      rotate_left
                      · simp only [Act.put, List.setIfInBounds_toArray, List.set_cons_zero, List.set_cons_succ, i64_w, i32_w]
                        rfl
                      refine pure_ (i := 1) (N := some 20) (v := ?_) (a' := ?_) #[true, true, false, false, false, false, false, false, false, false, false, false, false, false, false, false, false, false] rfl rfl (any_of HT_.out (by kernel_rfl)) (fun _ _ _ h => h) (Or.inl ⟨by rfl, ?_⟩) ?_ ?_
                      rotate_left
                      · intro w'
                        go_simp
                        with_reducible rfl
                      rotate_left
                      · simp only [Act.put, List.setIfInBounds_toArray, List.set_cons_zero, List.set_cons_succ, i64_w, i32_w]
                        rfl
                      refine pure_ (i := 2) (N := some 21) (v := ?_) (a' := ?_) #[true, true, true, false, false, false, false, false, false, false, false, false, false, false, false, false, false, false] rfl rfl (any_of HT_.out (by kernel_rfl)) (fun _ _ _ h => h) (Or.inl ⟨by rfl, ?_⟩) ?_ ?_
                      rotate_left
                      · intro w'
                        go_simp
                        with_reducible rfl
                      rotate_left
                      · simp only [Act.put, List.setIfInBounds_toArray, List.set_cons_zero, List.set_cons_succ, i64_w, i32_w]
                        rfl
                      refine pure_ (i := 3) (N := some 22) (v := ?_) (a' := ?_) #[true, true, true, true, false, false, false, false, false, false, false, false, false, false, false, false, false, false] rfl rfl (any_of HT_.out (by kernel_rfl)) (fun _ _ _ h => h) (Or.inl ⟨by rfl, ?_⟩) ?_ ?_
                      rotate_left
                      · intro w'
                        go_simp
                        with_reducible rfl
                      rotate_left
                      · simp only [Act.put, List.setIfInBounds_toArray, List.set_cons_zero, List.set_cons_succ, i64_w, i32_w]
                        rfl
                      refine pure_ (i := 4) (N := some 23) (v := ?_) (a' := ?_) #[true, true, true, true, true, false, false, false, false, false, false, false, false, false, false, false, false, false] rfl rfl (any_of HT_.out (by kernel_rfl)) (fun _ _ _ h => h) (Or.inl ⟨by rfl, ?_⟩) ?_ ?_
                      rotate_left
                      · intro w'
                        go_simp
                        with_reducible rfl
                      rotate_left
                      · simp only [Act.put, List.setIfInBounds_toArray, List.set_cons_zero, List.set_cons_succ, i64_w, i32_w]
                        rfl
                      refine pure_ (i := 5) (N := some 24) (v := ?_) (a' := ?_) #[true, true, true, true, true, true, false, false, false, false, false, false, false, false, false, false, false, false] rfl rfl (any_of HT_.out (by kernel_rfl)) (fun _ _ _ h => h) (Or.inl ⟨by rfl, ?_⟩) ?_ ?_
                      rotate_left
                      · intro w'
                        go_simp
                        with_reducible rfl
                      rotate_left
                      · simp only [Act.put, List.setIfInBounds_toArray, List.set_cons_zero, List.set_cons_succ, i64_w, i32_w]
                        rfl
                      refine pure_ (i := 6) (N := some 25) (v := ?_) (a' := ?_) #[true, true, true, true, true, true, true, false, false, false, false, false, false, false, false, false, false, false] rfl rfl (any_of HT_.out (by kernel_rfl)) (fun _ _ _ h => h) (Or.inl ⟨by rfl, ?_⟩) ?_ ?_
                      rotate_left
                      · intro w'
                        go_simp
                        with_reducible rfl
                      rotate_left
                      · simp only [Act.put, List.setIfInBounds_toArray, List.set_cons_zero, List.set_cons_succ, i64_w, i32_w]
                        rfl
                      refine pure_ (i := 7) (N := some 26) (v := ?_) (a' := ?_) #[true, true, true, true, true, true, true, true, false, false, false, false, false, false, false, false, false, false] rfl rfl (any_of HT_.out (by kernel_rfl)) (fun _ _ _ h => h) (Or.inl ⟨by rfl, ?_⟩) ?_ ?_
                      rotate_left
                      · intro w'
                        go_simp
                        with_reducible rfl
                      rotate_left
                      · simp only [Act.put, List.setIfInBounds_toArray, List.set_cons_zero, List.set_cons_succ, i64_w, i32_w]
                        rfl
                      refine pure_ (i := 8) (N := some 27) (v := ?_) (a' := ?_) #[true, true, true, true, true, true, true, true, true, false, false, false, false, false, false, false, false, false] rfl rfl (any_of HT_.out (by kernel_rfl)) (fun _ _ _ h => h) (Or.inl ⟨by rfl, ?_⟩) ?_ ?_
                      rotate_left
                      · intro w'
                        go_simp
                        with_reducible rfl
                      rotate_left
                      · simp only [Act.put, List.setIfInBounds_toArray, List.set_cons_zero, List.set_cons_succ, i64_w, i32_w]
                        rfl
                      refine pure_ (i := 10) (N := some 29) (v := ?_) (a' := ?_) #[true, true, true, true, true, true, true, true, true, false, true, false, false, false, false, false, false, false] rfl rfl (any_of HT_.out (by kernel_rfl)) (fun _ _ _ h => h) (Or.inl ⟨by rfl, ?_⟩) ?_ ?_
                      rotate_left
                      · intro w'
                        go_simp
                        with_reducible rfl
                      rotate_left
                      · simp only [Act.put, List.setIfInBounds_toArray, List.set_cons_zero, List.set_cons_succ, i64_w, i32_w]
                        rfl
                      refine pure_ (i := 11) (N := some 30) (v := ?_) (a' := ?_) #[true, true, true, true, true, true, true, true, true, false, true, true, false, false, false, false, false, false] rfl rfl (any_of HT_.out (by kernel_rfl)) (fun _ _ _ h => h) (Or.inl ⟨by rfl, ?_⟩) ?_ ?_
                      rotate_left
                      · intro w'
                        go_simp
                        with_reducible rfl
                      rotate_left
                      · simp only [Act.put, List.setIfInBounds_toArray, List.set_cons_zero, List.set_cons_succ, i64_w, i32_w]
                        rfl
                      refine pure_ (i := 12) (N := some 31) (v := ?_) (a' := ?_) #[true, true, true, true, true, true, true, true, true, false, true, true, true, false, false, false, false, false] rfl rfl (any_of HT_.out (by kernel_rfl)) (fun _ _ _ h => h) (Or.inl ⟨by rfl, ?_⟩) ?_ ?_
                      rotate_left
                      · intro w'
                        go_simp
                        with_reducible rfl
                      rotate_left
                      · simp only [Act.put, List.setIfInBounds_toArray, List.set_cons_zero, List.set_cons_succ, i64_w, i32_w]
                        rfl
                      refine pure_ (i := 13) (N := some 32) (v := ?_) (a' := ?_) #[true, true, true, true, true, true, true, true, true, false, true, true, true, true, false, false, false, false] rfl rfl (any_of HT_.out (by kernel_rfl)) (fun _ _ _ h => h) (Or.inl ⟨by rfl, ?_⟩) ?_ ?_
                      rotate_left
                      · intro w'
                        go_simp
                        with_reducible rfl
                      rotate_left
                      · simp only [Act.put, List.setIfInBounds_toArray, List.set_cons_zero, List.set_cons_succ, i64_w, i32_w]
                        rfl
                      refine pure_ (i := 14) (N := some 33) (v := ?_) (a' := ?_) #[true, true, true, true, true, true, true, true, true, false, true, true, true, true, true, false, false, false] rfl rfl (any_of HT_.out (by kernel_rfl)) (fun _ _ _ h => h) (Or.inl ⟨by rfl, ?_⟩) ?_ ?_
                      rotate_left
                      · intro w'
                        go_simp
                        with_reducible rfl
                      rotate_left
                      · simp only [Act.put, List.setIfInBounds_toArray, List.set_cons_zero, List.set_cons_succ, i64_w, i32_w]
                        rfl
                      refine take_ (i := 9) (N := some 28) (v := ?_) (a' := ?_) #[true, true, true, true, true, true, true, true, true, true, true, true, true, true, true, false, false, false] rfl rfl (take_ofW HT_.out HW_.out (by kernel_rfl)) (fun _ _ _ h => h) (Or.inl ⟨by rfl, ?_⟩) hHeld ?_ ?_
                      rotate_left
                      · intro w' s0
                        go_simp
                        with_reducible rfl
                      rotate_left
                      · simp only [Act.put, List.setIfInBounds_toArray, List.set_cons_zero, List.set_cons_succ, i64_w, i32_w]
                        rfl
                      refine pure_ (i := 15) (N := some 34) (v := ?_) (a' := ?_) #[true, true, true, true, true, true, true, true, true, true, true, true, true, true, true, true, false, false] rfl rfl (any_of HT_.out (by kernel_rfl)) (fun _ _ _ h => h) (Or.inl ⟨by rfl, ?_⟩) ?_ ?_
                      rotate_left
                      · intro w'
                        go_simp
                        with_reducible rfl
                      rotate_left
                      · simp only [Act.put, List.setIfInBounds_toArray, List.set_cons_zero, List.set_cons_succ, i64_w, i32_w]
                        rfl
                      refine pure_ (i := 16) (N := some 35) (v := ?_) (a' := ?_) #[true, true, true, true, true, true, true, true, true, true, true, true, true, true, true, true, true, false] rfl rfl (any_of HT_.out (by kernel_rfl)) (fun _ _ _ h => h) (Or.inl ⟨by rfl, ?_⟩) ?_ ?_
                      rotate_left
                      · intro w'
                        go_simp
                        with_reducible rfl
                      rotate_left
                      · simp only [Act.put, List.setIfInBounds_toArray, List.set_cons_zero, List.set_cons_succ, i64_w, i32_w]
                        rfl
                      refine last_ (i := 17) (N := none) #[true, true, true, true, true, true, true, true, true, true, true, true, true, true, true, true, true, true] rfl rfl (one_of HT_.out (by kernel_rfl)) (by decide) (fun K hK => ?_)
                      refine skip_ (w1 := ?_) (by rfl) rfl ?_ ?_
                      rotate_left
                      · go_simp
                        rfl
                      refine hK.out _ _ ?_
                      clear hK K
                      refine done_ (done_of HT_.out (by kernel_rfl)) ?_
                      try go_wp2
                      go_roundg k1
                      case measure => have := HK1.out; omega
                      case rel => exact ⟨(y108), (wrap64 (x4_1 + 1)), (by first | rfl | (simp; done) | (simp [*]; done)), H', ⟨by have := HK1.out; omega⟩, ⟨RU HQ20.out⟩, ⟨belG HB.out GB17.out⟩⟩
                    · rw [if_neg c16] at H
                      exact absurd H (by simp)
                  · rw [if_neg c15] at H
                    exact absurd H (by simp)
                · rw [if_neg c14] at H
                  exact absurd H (by simp)
              · rw [if_neg c12] at H
                exact absurd H (by simp)
            · rw [if_neg c11] at H
              exact absurd H (by simp)
        · rw [if_neg c5] at H
          exact absurd H (by simp)
      · rw [if_neg c4] at H
        have c4b0 : decide (x4_1 < (a0.size : Int)) = false := decide_eq_false c4
        clear c4
        obtain rfl := Option.some.inj H
        go_wp2
        go_ret
        exact ⟨_, by first | rfl | (simp [errW_none, errW_some] <;> rfl) | (simp [*, errW_none, errW_some] <;> rfl), by (with_reducible repeat (first | apply Kd.R_alloc | apply Kd.R_drewN | apply Kd.R_drew)); exact HO_3.out, belU HB.out⟩

end Go.Proofs.YtjllbkeobibnkaaDoor.Q

namespace Go.Proofs.YtjllbkeobibnkaaDoor.Q
open Go.RowKit Go.Proofs.YtjllbkeobibnkaaDoorW.PrintWords Go.Proofs.YtjllbkeobibnkaaDoorW.PrintLast Go.Proofs.YtjllbkeobibnkaaDoorW.PrintMore
attribute [local go_sem] max2_int min2_int max_two min_two max_three min_three max_four min_four   -- for this text's walks alone
attribute [local go_sem ↓] Go.Proofs.YtjllbkeobibnkaaDoorK.isSome_setCell
set_option linter.unusedVariables false
set_option linter.unusedSimpArgs false

/-! ### aquiferref05_sign: function 95 -/
def aquiferref05_sign.f (a0 : Int) : Option (Bool) := if a0 ≥ 97 then (if a0 ≤ 122 then (some true) else (if a0 ≥ 48 then (if a0 ≤ 57 then (some true) else (if a0 = 95 then (some true) else (if a0 = 45 then (some true) else (some (a0 == 126))))) else (if a0 = 95 then (some true) else (if a0 = 45 then (some true) else (some (a0 == 126)))))) else (if a0 ≥ 48 then (if a0 ≤ 57 then (some true) else (if a0 = 95 then (some true) else (if a0 = 45 then (some true) else (some (a0 == 126))))) else (if a0 = 95 then (some true) else (if a0 = 45 then (some true) else (some (a0 == 126)))))
set_option maxHeartbeats 8000000 in
set_option maxRecDepth 100000 in
theorem aquiferref05_sign.calls (a0 : Int) (r : Bool) (w : World) (h : aquiferref05_sign.f a0 = some r) :
    Calls Tryd.prog 95 #[.int .u8 a0] w fun e w' => e = .returned (.bool r) ∧ Drawn0 w w' := by
  have H : (if a0 ≥ 97 then (if a0 ≤ 122 then (some true) else (if a0 ≥ 48 then (if a0 ≤ 57 then (some true) else (if a0 = 95 then (some true) else (if a0 = 45 then (some true) else (some (a0 == 126))))) else (if a0 = 95 then (some true) else (if a0 = 45 then (some true) else (some (a0 == 126)))))) else (if a0 ≥ 48 then (if a0 ≤ 57 then (some true) else (if a0 = 95 then (some true) else (if a0 = 45 then (some true) else (some (a0 == 126))))) else (if a0 = 95 then (some true) else (if a0 = 45 then (some true) else (some (a0 == 126)))))) = some r := h
  clear h
  by_cases c2 : a0 ≥ 97
  · rw [if_pos c2] at H
    have c2b0 : decide (97 ≤ a0) = true := decide_eq_true c2
    clear c2
    by_cases c3 : a0 ≤ 122
    · rw [if_pos c3] at H
      have c3b0 : decide (a0 ≤ 122) = true := decide_eq_true c3
      clear c3
      obtain rfl := Option.some.inj H
      go_enter Tryd.func95, Tryd.ntmps95
      go_wp2
      go_ret
      exact ⟨by first | rfl | (simp; done) | (simp [*]; done), by repeat (first | exact Drawn0.refl _ | apply Drawn0.step)⟩
    · rw [if_neg c3] at H
      have c3b0 : decide (a0 ≤ 122) = false := decide_eq_false c3
      clear c3
      by_cases c4 : a0 ≥ 48
      · rw [if_pos c4] at H
        have c4b0 : decide (48 ≤ a0) = true := decide_eq_true c4
        clear c4
        by_cases c5 : a0 ≤ 57
        · rw [if_pos c5] at H
          have c5b0 : decide (a0 ≤ 57) = true := decide_eq_true c5
          clear c5
          obtain rfl := Option.some.inj H
          go_enter Tryd.func95, Tryd.ntmps95
          go_wp2
          go_ret
          exact ⟨by first | rfl | (simp; done) | (simp [*]; done), by repeat (first | exact Drawn0.refl _ | apply Drawn0.step)⟩
        · rw [if_neg c5] at H
          have c5b0 : decide (a0 ≤ 57) = false := decide_eq_false c5
          clear c5
          by_cases c6 : a0 = 95
          · rw [if_pos c6] at H
            have c6b0 : (a0 == 95) = true := beq_iff_eq.mpr c6
            have c6b1 : (a0 != 95) = false := bne_eq_false_iff_eq.mpr c6
            clear c6
            obtain rfl := Option.some.inj H
            go_enter Tryd.func95, Tryd.ntmps95
            go_wp2
            go_ret
            exact ⟨by first | rfl | (simp; done) | (simp [*]; done), by repeat (first | exact Drawn0.refl _ | apply Drawn0.step)⟩
          · rw [if_neg c6] at H
            have c6b0 : (a0 == 95) = false := beq_eq_false_iff_ne.mpr c6
            have c6b1 : (a0 != 95) = true := bne_iff_ne.mpr c6
            by_cases c7 : a0 = 45
            · rw [if_pos c7] at H
              have c7b0 : (a0 == 45) = true := beq_iff_eq.mpr c7
              have c7b1 : (a0 != 45) = false := bne_eq_false_iff_eq.mpr c7
              clear c7
              obtain rfl := Option.some.inj H
              go_enter Tryd.func95, Tryd.ntmps95
              go_wp2
              go_ret
              exact ⟨by first | rfl | (simp; done) | (simp [*]; done), by repeat (first | exact Drawn0.refl _ | apply Drawn0.step)⟩
            · rw [if_neg c7] at H
              have c7b0 : (a0 == 45) = false := beq_eq_false_iff_ne.mpr c7
              have c7b1 : (a0 != 45) = true := bne_iff_ne.mpr c7
              obtain rfl := Option.some.inj H
              go_enter Tryd.func95, Tryd.ntmps95
              go_wp2
              go_ret
              exact ⟨by first | rfl | (simp; done) | (simp [*]; done), by repeat (first | exact Drawn0.refl _ | apply Drawn0.step)⟩
      · rw [if_neg c4] at H
        have c4b0 : decide (48 ≤ a0) = false := decide_eq_false c4
        clear c4
        by_cases c8 : a0 = 95
        · rw [if_pos c8] at H
          have c8b0 : (a0 == 95) = true := beq_iff_eq.mpr c8
          have c8b1 : (a0 != 95) = false := bne_eq_false_iff_eq.mpr c8
          clear c8
          obtain rfl := Option.some.inj H
          go_enter Tryd.func95, Tryd.ntmps95
          go_wp2
          go_ret
          exact ⟨by first | rfl | (simp; done) | (simp [*]; done), by repeat (first | exact Drawn0.refl _ | apply Drawn0.step)⟩
        · rw [if_neg c8] at H
          have c8b0 : (a0 == 95) = false := beq_eq_false_iff_ne.mpr c8
          have c8b1 : (a0 != 95) = true := bne_iff_ne.mpr c8
          by_cases c9 : a0 = 45
          · rw [if_pos c9] at H
            have c9b0 : (a0 == 45) = true := beq_iff_eq.mpr c9
            have c9b1 : (a0 != 45) = false := bne_eq_false_iff_eq.mpr c9
            clear c9
            obtain rfl := Option.some.inj H
            go_enter Tryd.func95, Tryd.ntmps95
            go_wp2
            go_ret
            exact ⟨by first | rfl | (simp; done) | (simp [*]; done), by repeat (first | exact Drawn0.refl _ | apply Drawn0.step)⟩
          · rw [if_neg c9] at H
            have c9b0 : (a0 == 45) = false := beq_eq_false_iff_ne.mpr c9
            have c9b1 : (a0 != 45) = true := bne_iff_ne.mpr c9
            obtain rfl := Option.some.inj H
            go_enter Tryd.func95, Tryd.ntmps95
            go_wp2
            go_ret
            exact ⟨by first | rfl | (simp; done) | (simp [*]; done), by repeat (first | exact Drawn0.refl _ | apply Drawn0.step)⟩
  · rw [if_neg c2] at H
    have c2b0 : decide (97 ≤ a0) = false := decide_eq_false c2
    clear c2
    by_cases c10 : a0 ≥ 48
    · rw [if_pos c10] at H
      have c10b0 : decide (48 ≤ a0) = true := decide_eq_true c10
      clear c10
      by_cases c11 : a0 ≤ 57
      · rw [if_pos c11] at H
        have c11b0 : decide (a0 ≤ 57) = true := decide_eq_true c11
        clear c11
        obtain rfl := Option.some.inj H
        go_enter Tryd.func95, Tryd.ntmps95
        go_wp2
        go_ret
        exact ⟨by first | rfl | (simp; done) | (simp [*]; done), by repeat (first | exact Drawn0.refl _ | apply Drawn0.step)⟩
      · rw [if_neg c11] at H
        have c11b0 : decide (a0 ≤ 57) = false := decide_eq_false c11
        clear c11
        by_cases c12 : a0 = 95
        · rw [if_pos c12] at H
          have c12b0 : (a0 == 95) = true := beq_iff_eq.mpr c12
          have c12b1 : (a0 != 95) = false := bne_eq_false_iff_eq.mpr c12
          clear c12
          obtain rfl := Option.some.inj H
          go_enter Tryd.func95, Tryd.ntmps95
          go_wp2
          go_ret
          exact ⟨by first | rfl | (simp; done) | (simp [*]; done), by repeat (first | exact Drawn0.refl _ | apply Drawn0.step)⟩
        · rw [if_neg c12] at H
          have c12b0 : (a0 == 95) = false := beq_eq_false_iff_ne.mpr c12
          have c12b1 : (a0 != 95) = true := bne_iff_ne.mpr c12
          by_cases c13 : a0 = 45
          · rw [if_pos c13] at H
            have c13b0 : (a0 == 45) = true := beq_iff_eq.mpr c13
            have c13b1 : (a0 != 45) = false := bne_eq_false_iff_eq.mpr c13
            clear c13
            obtain rfl := Option.some.inj H
            go_enter Tryd.func95, Tryd.ntmps95
            go_wp2
            go_ret
            exact ⟨by first | rfl | (simp; done) | (simp [*]; done), by repeat (first | exact Drawn0.refl _ | apply Drawn0.step)⟩
          · rw [if_neg c13] at H
            have c13b0 : (a0 == 45) = false := beq_eq_false_iff_ne.mpr c13
            have c13b1 : (a0 != 45) = true := bne_iff_ne.mpr c13
            obtain rfl := Option.some.inj H
            go_enter Tryd.func95, Tryd.ntmps95
            go_wp2
            go_ret
            exact ⟨by first | rfl | (simp; done) | (simp [*]; done), by repeat (first | exact Drawn0.refl _ | apply Drawn0.step)⟩
    · rw [if_neg c10] at H
      have c10b0 : decide (48 ≤ a0) = false := decide_eq_false c10
      clear c10
      by_cases c14 : a0 = 95
      · rw [if_pos c14] at H
        have c14b0 : (a0 == 95) = true := beq_iff_eq.mpr c14
        have c14b1 : (a0 != 95) = false := bne_eq_false_iff_eq.mpr c14
        clear c14
        obtain rfl := Option.some.inj H
        go_enter Tryd.func95, Tryd.ntmps95
        go_wp2
        go_ret
        exact ⟨by first | rfl | (simp; done) | (simp [*]; done), by repeat (first | exact Drawn0.refl _ | apply Drawn0.step)⟩
      · rw [if_neg c14] at H
        have c14b0 : (a0 == 95) = false := beq_eq_false_iff_ne.mpr c14
        have c14b1 : (a0 != 95) = true := bne_iff_ne.mpr c14
        by_cases c15 : a0 = 45
        · rw [if_pos c15] at H
          have c15b0 : (a0 == 45) = true := beq_iff_eq.mpr c15
          have c15b1 : (a0 != 45) = false := bne_eq_false_iff_eq.mpr c15
          clear c15
          obtain rfl := Option.some.inj H
          go_enter Tryd.func95, Tryd.ntmps95
          go_wp2
          go_ret
          exact ⟨by first | rfl | (simp; done) | (simp [*]; done), by repeat (first | exact Drawn0.refl _ | apply Drawn0.step)⟩
        · rw [if_neg c15] at H
          have c15b0 : (a0 == 45) = false := beq_eq_false_iff_ne.mpr c15
          have c15b1 : (a0 != 45) = true := bne_iff_ne.mpr c15
          obtain rfl := Option.some.inj H
          go_enter Tryd.func95, Tryd.ntmps95
          go_wp2
          go_ret
          exact ⟨by first | rfl | (simp; done) | (simp [*]; done), by repeat (first | exact Drawn0.refl _ | apply Drawn0.step)⟩

end Go.Proofs.YtjllbkeobibnkaaDoor.Q

namespace Go.Proofs.YtjllbkeobibnkaaDoor.Q
open Go.RowKit Go.Proofs.YtjllbkeobibnkaaDoorW.PrintWords Go.Proofs.YtjllbkeobibnkaaDoorW.PrintLast Go.Proofs.YtjllbkeobibnkaaDoorW.PrintMore
attribute [local go_sem] max2_int min2_int max_two min_two max_three min_three max_four min_four   -- for this text's walks alone
attribute [local go_sem ↓] Go.Proofs.YtjllbkeobibnkaaDoorK.isSome_setCell
set_option linter.unusedVariables false
set_option linter.unusedSimpArgs false

/-! ### aquiferref05_name: function 85 -/
def aquiferref05_name.l0 : Nat → ByteArray → Int → Int → Option (Int)
  | 0, _, _, _ => none
  | k + 1, x0, x3, x4 => if x4 < (x0.size : Int) then (if 0 ≤ x4 then (if (bt x0 x4) = 46 then (if x4 = 0 then (some 0) else (if x4 = (wrap64 ((x0.size : Int) - 1)) then (some 0) else (aquiferref05_name.l0 k x0 (wrap64 (x3 + 1)) (wrap64 (x4 + 1))))) else ((aquiferref05_sign.f (bt x0 x4)).bind fun t109 => (if t109 = true then (aquiferref05_name.l0 k x0 x3 (wrap64 (x4 + 1))) else (some 0)))) else (none)) else (if (x0.size : Int) = 0 then (some 0) else (if (x0.size : Int) > 24 then (some 0) else (if x3 > 1 then (some 0) else (some (wrap64 (1 + x3))))))
def aquiferref05_name.f (k : Nat) (a0 : ByteArray) : Option (Int) := aquiferref05_name.l0 k a0 0 0
theorem aquiferref05_name.mono_l : ∀ k, (∀ y0 y1 y2, LeO (aquiferref05_name.l0 k y0 y1 y2) (aquiferref05_name.l0 (k + 1) y0 y1 y2))
  | 0 => fun _ _ _ r h => by simp [aquiferref05_name.l0] at h
  | k + 1 => by
    have ih0 := aquiferref05_name.mono_l k
    · intro y0 y1 y2
      unfold aquiferref05_name.l0
      repeat' first
      | (with_reducible exact ih0 _ _ _)
      | (with_reducible exact LeO.refl _)
      | (with_reducible exact LeO.none _)
      | (with_reducible refine LeO.ite ?_ ?_)
      | (with_reducible refine LeO.bind ?_ (fun _ => ?_))
      | exact ih0 _ _ _
      | exact LeO.none _
      | refine LeO.ite ?_ ?_
      | refine LeO.bind ?_ (fun _ => ?_)
theorem aquiferref05_name.mono : ∀ a0 k, LeO (aquiferref05_name.f k a0) (aquiferref05_name.f (k + 1) a0) := by
  intro a0 k
  have ih0 := aquiferref05_name.mono_l k
  unfold aquiferref05_name.f
  repeat' first
      | (with_reducible exact ih0 _ _ _)
      | (with_reducible exact LeO.refl _)
      | (with_reducible exact LeO.none _)
      | (with_reducible refine LeO.ite ?_ ?_)
      | (with_reducible refine LeO.bind ?_ (fun _ => ?_))
      | exact ih0 _ _ _
      | exact LeO.none _
      | refine LeO.ite ?_ ?_
      | refine LeO.bind ?_ (fun _ => ?_)
set_option maxHeartbeats 8000000 in
set_option maxRecDepth 100000 in
theorem aquiferref05_name.calls (k : Nat) (a0 : ByteArray) (r : Int) (w : World) (h : aquiferref05_name.f k a0 = some r) :
    Calls Tryd.prog 85 #[.string a0] w fun e w' => e = .returned (.int .i64 r) ∧ Drawn0 w w' := by
  have H : (aquiferref05_name.l0 k a0 0 0) = some r := h
  clear h
  have H' := Aside0.mk H
  clear H
  go_enter Tryd.func85, Tryd.ntmps85
  go_wp2
  go_loopg [3, 4] k (fun kq v3 v4 w' => ∃ (x3_1 : Int) (x4_1 : Int), v3 = .int .i64 x3_1 ∧ v4 = .int .i64 x4_1 ∧ Aside0 (aquiferref05_name.l0 kq a0 x3_1 x4_1 = some r) ∧ Aside0 (kq ≤ k) ∧ Drawn0 w w')
  case atStart => exact ⟨(0), (0), (by first | rfl | (simp; done) | (simp [*]; done)), (by first | rfl | (simp; done) | (simp [*]; done)), H', ⟨Nat.le_refl _⟩, by repeat (first | exact Drawn0.refl _ | apply Drawn0.step)⟩
  case round =>
    clear H'
    obtain ⟨x3_1, x4_1, rfl, rfl, HA, HK1, ⟨m1, rfl⟩⟩ := hrel
    cases gk with
    | zero => exact absurd HA.out (by simp [aquiferref05_name.l0])
    | succ k1 =>
      have H := HA.out
      clear HA
      simp only [aquiferref05_name.l0] at H
      by_cases c2 : x4_1 < (a0.size : Int)
      · rw [if_pos c2] at H
        have c2b0 : decide (x4_1 < (a0.size : Int)) = true := decide_eq_true c2
        clear c2
        by_cases c3 : 0 ≤ x4_1
        · rw [if_pos c3] at H
          have c3b0 : decide (0 ≤ x4_1) = true := decide_eq_true c3
          clear c3
          by_cases c5 : (bt a0 x4_1) = 46
          · rw [if_pos c5] at H
            have c5b0 : ((bt a0 x4_1) == 46) = true := beq_iff_eq.mpr c5
            have c5b1 : ((bt a0 x4_1) != 46) = false := bne_eq_false_iff_eq.mpr c5
            clear c5
            by_cases c6 : x4_1 = 0
            · rw [if_pos c6] at H
              have c6b0 : (x4_1 == 0) = true := beq_iff_eq.mpr c6
              have c6b1 : (x4_1 != 0) = false := bne_eq_false_iff_eq.mpr c6
              clear c6
              obtain rfl := Option.some.inj H
              have p4 : 0 ≤ (x4_1 : Int) := of_decide_eq_true (by first | (with_reducible assumption) | assumption)
              have q4 : x4_1 < (a0.size : Int) := of_decide_eq_true (by first | (with_reducible assumption) | assumption)
              have hx4 := bt_at a0 x4_1
              replace p4 := eq_true p4
              replace q4 := eq_true q4
              go_wp2
              go_ret
              exact ⟨by first | rfl | (simp; done) | (simp [*]; done), by repeat (first | exact Drawn0.refl _ | apply Drawn0.step)⟩
            · rw [if_neg c6] at H
              have c6b0 : (x4_1 == 0) = false := beq_eq_false_iff_ne.mpr c6
              have c6b1 : (x4_1 != 0) = true := bne_iff_ne.mpr c6
              by_cases c7 : x4_1 = (wrap64 ((a0.size : Int) - 1))
              · rw [if_pos c7] at H
                have c7b0 : (x4_1 == (wrap64 ((a0.size : Int) - 1))) = true := beq_iff_eq.mpr c7
                have c7b1 : (x4_1 != (wrap64 ((a0.size : Int) - 1))) = false := bne_eq_false_iff_eq.mpr c7
                clear c7
                obtain rfl := Option.some.inj H
                have p4 : 0 ≤ (x4_1 : Int) := of_decide_eq_true (by first | (with_reducible assumption) | assumption)
                have q4 : x4_1 < (a0.size : Int) := of_decide_eq_true (by first | (with_reducible assumption) | assumption)
                have hx4 := bt_at a0 x4_1
                replace p4 := eq_true p4
                replace q4 := eq_true q4
                go_wp2
                go_ret
                exact ⟨by first | rfl | (simp; done) | (simp [*]; done), by repeat (first | exact Drawn0.refl _ | apply Drawn0.step)⟩
              · rw [if_neg c7] at H
                have c7b0 : (x4_1 == (wrap64 ((a0.size : Int) - 1))) = false := beq_eq_false_iff_ne.mpr c7
                have c7b1 : (x4_1 != (wrap64 ((a0.size : Int) - 1))) = true := bne_iff_ne.mpr c7
                have H' := Aside0.mk H
                clear H
                have p4 : 0 ≤ (x4_1 : Int) := of_decide_eq_true (by first | (with_reducible assumption) | assumption)
                have q4 : x4_1 < (a0.size : Int) := of_decide_eq_true (by first | (with_reducible assumption) | assumption)
                have hx4 := bt_at a0 x4_1
                replace p4 := eq_true p4
                replace q4 := eq_true q4
                go_wp2
                go_roundg k1
                case measure => have := HK1.out; omega
                case rel => exact ⟨(wrap64 (x3_1 + 1)), (wrap64 (x4_1 + 1)), (by first | rfl | (simp; done) | (simp [*]; done)), (by first | rfl | (simp; done) | (simp [*]; done)), H', ⟨by have := HK1.out; omega⟩, by repeat (first | exact Drawn0.refl _ | apply Drawn0.step)⟩
          · rw [if_neg c5] at H
            have c5b0 : ((bt a0 x4_1) == 46) = false := beq_eq_false_iff_ne.mpr c5
            have c5b1 : ((bt a0 x4_1) != 46) = true := bne_iff_ne.mpr c5
            replace H := Option.bind_eq_some_iff.mp H
            obtain ⟨t109, A90, H⟩ := H
            replace H : (if t109 = true then (aquiferref05_name.l0 k1 a0 x3_1 (wrap64 (x4_1 + 1))) else (some 0)) = some r := H
            have A9 := Aside0.mk A90
            clear A90
            by_cases c10 : t109 = true
            · subst c10
              have H1 : (aquiferref05_name.l0 k1 a0 x3_1 (wrap64 (x4_1 + 1))) = some r := by rw [if_pos rfl] at H; exact H
              clear H
              have H := H1
              clear H1
              have H' := Aside0.mk H
              clear H
              have p4 : 0 ≤ (x4_1 : Int) := of_decide_eq_true (by first | (with_reducible assumption) | assumption)
              have q4 : x4_1 < (a0.size : Int) := of_decide_eq_true (by first | (with_reducible assumption) | assumption)
              have hx4 := bt_at a0 x4_1
              replace p4 := eq_true p4
              replace q4 := eq_true q4
              have p8 : 0 ≤ (x4_1 : Int) := of_decide_eq_true (by first | (with_reducible assumption) | assumption)
              have q8 : x4_1 < (a0.size : Int) := of_decide_eq_true (by first | (with_reducible assumption) | assumption)
              have hx8 := bt_at a0 x4_1
              replace p8 := eq_true p8
              replace q8 := eq_true q8
              go_wp2_with (first | ((with_reducible refine gate_callee (f := 95) rfl ?_); refine goesL_ (some 29) rfl rfl Tryd.func95 (by kernel_rfl) rfl #[.int .u8 (bt a0 x4_1)] rfl (by (try simp only [List.map_toArray, List.map_cons, List.map_nil]); first | done | rfl | (simp only [List.length_drop, List.length_take]; rfl)) ?_; (with_reducible refine (aquiferref05_sign.calls (bt a0 x4_1) true _ A9.out).mono ?_); rintro e w' ⟨rfl, ⟨nd, rfl⟩⟩; refine ⟨_, rfl, ?_⟩))
              go_roundg k1
              case measure => have := HK1.out; omega
              case rel => exact ⟨(x3_1), (wrap64 (x4_1 + 1)), (by first | rfl | (simp; done) | (simp [*]; done)), (by first | rfl | (simp; done) | (simp [*]; done)), H', ⟨by have := HK1.out; omega⟩, by repeat (first | exact Drawn0.refl _ | apply Drawn0.step)⟩
            · replace c10 := Bool.eq_false_iff.mpr c10
              subst c10
              have H1 : (some 0) = some r := by rw [if_neg (show ¬ (false = true) by decide)] at H; exact H
              clear H
              have H := H1
              clear H1
              obtain rfl := Option.some.inj H
              have p4 : 0 ≤ (x4_1 : Int) := of_decide_eq_true (by first | (with_reducible assumption) | assumption)
              have q4 : x4_1 < (a0.size : Int) := of_decide_eq_true (by first | (with_reducible assumption) | assumption)
              have hx4 := bt_at a0 x4_1
              replace p4 := eq_true p4
              replace q4 := eq_true q4
              have p8 : 0 ≤ (x4_1 : Int) := of_decide_eq_true (by first | (with_reducible assumption) | assumption)
              have q8 : x4_1 < (a0.size : Int) := of_decide_eq_true (by first | (with_reducible assumption) | assumption)
              have hx8 := bt_at a0 x4_1
              replace p8 := eq_true p8
              replace q8 := eq_true q8
              go_wp2_with (first | ((with_reducible refine gate_callee (f := 95) rfl ?_); refine goesL_ (some 29) rfl rfl Tryd.func95 (by kernel_rfl) rfl #[.int .u8 (bt a0 x4_1)] rfl (by (try simp only [List.map_toArray, List.map_cons, List.map_nil]); first | done | rfl | (simp only [List.length_drop, List.length_take]; rfl)) ?_; (with_reducible refine (aquiferref05_sign.calls (bt a0 x4_1) false _ A9.out).mono ?_); rintro e w' ⟨rfl, ⟨nd, rfl⟩⟩; refine ⟨_, rfl, ?_⟩))
              go_ret
              exact ⟨by first | rfl | (simp; done) | (simp [*]; done), by repeat (first | exact Drawn0.refl _ | apply Drawn0.step)⟩
        · rw [if_neg c3] at H
          exact absurd H (by simp)
      · rw [if_neg c2] at H
        have c2b0 : decide (x4_1 < (a0.size : Int)) = false := decide_eq_false c2
        clear c2
        by_cases c11 : (a0.size : Int) = 0
        · rw [if_pos c11] at H
          have c11b0 : ((a0.size : Int) == 0) = true := beq_iff_eq.mpr c11
          have c11b1 : ((a0.size : Int) != 0) = false := bne_eq_false_iff_eq.mpr c11
          clear c11
          obtain rfl := Option.some.inj H
          go_wp2
          go_ret
          exact ⟨by first | rfl | (simp; done) | (simp [*]; done), by repeat (first | exact Drawn0.refl _ | apply Drawn0.step)⟩
        · rw [if_neg c11] at H
          have c11b0 : ((a0.size : Int) == 0) = false := beq_eq_false_iff_ne.mpr c11
          have c11b1 : ((a0.size : Int) != 0) = true := bne_iff_ne.mpr c11
          by_cases c12 : (a0.size : Int) > 24
          · rw [if_pos c12] at H
            have c12b0 : decide (24 < (a0.size : Int)) = true := decide_eq_true c12
            have c12b1 : decide (24 < a0.size) = true := decide_eq_true (by omega)
            clear c12
            obtain rfl := Option.some.inj H
            go_wp2
            go_ret
            exact ⟨by first | rfl | (simp; done) | (simp [*]; done), by repeat (first | exact Drawn0.refl _ | apply Drawn0.step)⟩
          · rw [if_neg c12] at H
            have c12b0 : decide (24 < (a0.size : Int)) = false := decide_eq_false c12
            have c12b1 : decide (24 < a0.size) = false := decide_eq_false (by omega)
            clear c12
            by_cases c13 : x3_1 > 1
            · rw [if_pos c13] at H
              have c13b0 : decide (1 < x3_1) = true := decide_eq_true c13
              clear c13
              obtain rfl := Option.some.inj H
              go_wp2
              go_ret
              exact ⟨by first | rfl | (simp; done) | (simp [*]; done), by repeat (first | exact Drawn0.refl _ | apply Drawn0.step)⟩
            · rw [if_neg c13] at H
              have c13b0 : decide (1 < x3_1) = false := decide_eq_false c13
              clear c13
              obtain rfl := Option.some.inj H
              go_wp2
              go_ret
              exact ⟨by first | rfl | (simp; done) | (simp [*]; done), by repeat (first | exact Drawn0.refl _ | apply Drawn0.step)⟩

end Go.Proofs.YtjllbkeobibnkaaDoor.Q

namespace Go.Proofs.YtjllbkeobibnkaaDoor.Q
open Go.RowKit Go.Proofs.YtjllbkeobibnkaaDoorW.PrintWords Go.Proofs.YtjllbkeobibnkaaDoorW.PrintLast Go.Proofs.YtjllbkeobibnkaaDoorW.PrintMore Go.Proofs.YtjllbkeobibnkaaDoorK
attribute [local go_sem] max2_int min2_int max_two min_two max_three min_three max_four min_four   -- for this text's walks alone
attribute [local go_sem ↓] Go.Proofs.YtjllbkeobibnkaaDoorK.isSome_setCell
set_option linter.unusedVariables false
set_option linter.unusedSimpArgs false

/-! ### aquiferref05_Kind: function 66 -/
def aquiferref05_Kind.l0 : Nat → List ByteArray → Int → Option (Int × Int)
  | 0, _, _ => none
  | k + 1, x4, x5 => if x5 < (x4.length : Int) then (if 0 ≤ x5 then ((aquiferref05_name.f k (rdOf ByteArray.empty x4 x5)).bind fun t116 => (if t116 = 0 then (some (0, 18)) else ((aquiferref05_name.f k (rdOf ByteArray.empty x4 x5)).bind fun t118 => (if t118 = 2 then (if (wrap64 (x5 + 1)) < (x4.length : Int) then (some (0, 18)) else (aquiferref05_Kind.l0 k x4 (wrap64 (x5 + 1)))) else (aquiferref05_Kind.l0 k x4 (wrap64 (x5 + 1))))))) else (none)) else (if (x4.length : Int) > 8 then (some (0, 7)) else (if 0 ≤ (wrap64 ((x4.length : Int) - 1)) then (if (wrap64 ((x4.length : Int) - 1)) < (x4.length : Int) then ((aquiferref05_name.f k (rdOf ByteArray.empty x4 (wrap64 ((x4.length : Int) - 1)))).bind fun t114 => (some (t114, 0))) else (none)) else (none)))
def aquiferref05_Kind.f (k : Nat) (a0 : ByteArray) : Option (Int × Int) := if (a0.size : Int) > 96 then (some (0, 3)) else (if a0.toList = ([] : List UInt8) then (some (1, 0)) else ((aquiferref05_Names.f k a0).bind fun t110 => (aquiferref05_Kind.l0 k t110 0)))
theorem aquiferref05_Kind.mono_l : ∀ k, (∀ y0 y1, LeO (aquiferref05_Kind.l0 k y0 y1) (aquiferref05_Kind.l0 (k + 1) y0 y1))
  | 0 => fun _ _ r h => by simp [aquiferref05_Kind.l0] at h
  | k + 1 => by
    have ih0 := aquiferref05_Kind.mono_l k
    · intro y0 y1
      unfold aquiferref05_Kind.l0
      repeat' first
      | (with_reducible exact ih0 _ _)
      | (with_reducible exact aquiferref05_Names.mono _ _)
      | (with_reducible exact aquiferref05_name.mono _ _)
      | (with_reducible exact LeO.refl _)
      | (with_reducible exact LeO.none _)
      | (with_reducible refine LeO.ite ?_ ?_)
      | (with_reducible refine LeO.bind ?_ (fun _ => ?_))
      | exact ih0 _ _
      | exact aquiferref05_Names.mono _ _
      | exact aquiferref05_name.mono _ _
      | exact LeO.none _
      | refine LeO.ite ?_ ?_
      | refine LeO.bind ?_ (fun _ => ?_)
theorem aquiferref05_Kind.mono : ∀ a0 k, LeO (aquiferref05_Kind.f k a0) (aquiferref05_Kind.f (k + 1) a0) := by
  intro a0 k
  have ih0 := aquiferref05_Kind.mono_l k
  unfold aquiferref05_Kind.f
  repeat' first
      | (with_reducible exact ih0 _ _)
      | (with_reducible exact aquiferref05_Names.mono _ _)
      | (with_reducible exact aquiferref05_name.mono _ _)
      | (with_reducible exact LeO.refl _)
      | (with_reducible exact LeO.none _)
      | (with_reducible refine LeO.ite ?_ ?_)
      | (with_reducible refine LeO.bind ?_ (fun _ => ?_))
      | exact ih0 _ _
      | exact aquiferref05_Names.mono _ _
      | exact aquiferref05_name.mono _ _
      | exact LeO.none _
      | refine LeO.ite ?_ ?_
      | refine LeO.bind ?_ (fun _ => ?_)
set_option maxHeartbeats 8000000 in
set_option maxRecDepth 100000 in
theorem aquiferref05_Kind.calls (k : Nat) (a0 : ByteArray) (r1 : Int) (r2 : Int) (w : World) (h : aquiferref05_Kind.f k a0 = some (r1, r2)) :
    Calls Tryd.prog 66 #[.string a0] w fun e w' => e = .returned (.tuple #[.int .i64 r1, .int .i64 r2]) ∧ Below w.heap.size w w' := by
  have HB := Aside0.mk (Below.refl w.heap.size w)
  have H : (if (a0.size : Int) > 96 then (some (0, 3)) else (if a0.toList = ([] : List UInt8) then (some (1, 0)) else ((aquiferref05_Names.f k a0).bind fun t110 => (aquiferref05_Kind.l0 k t110 0)))) = some (r1, r2) := h
  clear h
  by_cases c2 : (a0.size : Int) > 96
  · rw [if_pos c2] at H
    have c2b0 : decide (96 < (a0.size : Int)) = true := decide_eq_true c2
    have c2b1 : decide (96 < a0.size) = true := decide_eq_true (by omega)
    clear c2
    simp only [Option.some.injEq, Prod.mk.injEq] at H
    obtain ⟨rfl, rfl⟩ := H
    go_enter Tryd.func66, Tryd.ntmps66
    go_wp2
    go_ret2
    exact ⟨by first | rfl | (simp [errW_none, errW_some] <;> rfl) | (simp [*, errW_none, errW_some] <;> rfl), belU HB.out⟩
  · rw [if_neg c2] at H
    have c2b0 : decide (96 < (a0.size : Int)) = false := decide_eq_false c2
    have c2b1 : decide (96 < a0.size) = false := decide_eq_false (by omega)
    clear c2
    by_cases c3 : a0.toList = ([] : List UInt8)
    · rw [if_pos c3] at H
      have c3b0 : (a0.toList == ([] : List UInt8)) = true := beq_iff_eq.mpr c3
      have c3b1 : (a0.toList != ([] : List UInt8)) = false := bne_eq_false_iff_eq.mpr c3
      clear c3
      simp only [Option.some.injEq, Prod.mk.injEq] at H
      obtain ⟨rfl, rfl⟩ := H
      go_enter Tryd.func66, Tryd.ntmps66
      go_wp2
      go_ret2
      exact ⟨by first | rfl | (simp [errW_none, errW_some] <;> rfl) | (simp [*, errW_none, errW_some] <;> rfl), belU HB.out⟩
    · rw [if_neg c3] at H
      have c3b0 : (a0.toList == ([] : List UInt8)) = false := beq_eq_false_iff_ne.mpr c3
      have c3b1 : (a0.toList != ([] : List UInt8)) = true := bne_iff_ne.mpr c3
      replace H := Option.bind_eq_some_iff.mp H
      obtain ⟨t110, A40, H⟩ := H
      replace H : (aquiferref05_Kind.l0 k t110 0) = some (r1, r2) := H
      have A4 := Aside0.mk A40
      clear A40
      have H' := Aside0.mk H
      clear H
      go_enter Tryd.func66, Tryd.ntmps66
      go_wp2_with (first | ((with_reducible refine gate_callee (f := 84) rfl ?_); refine goesL_ (some 12) rfl rfl Tryd.func84 (by kernel_rfl) rfl #[.string a0] rfl (by (try simp only [List.map_toArray, List.map_cons, List.map_nil]); first | done | rfl | (simp only [List.length_drop, List.length_take]; rfl)) ?_; (with_reducible refine (aquiferref05_Names.calls k a0 t110 _ A4.out).mono ?_); rintro e w5 ⟨v111, rfl, ho0, hb⟩; refine ⟨_, rfl, ?_⟩; have n0_ := Aside0.mk (Kd.R_lower ho0 (sizU HB.out)); have n1_ := Aside0.mk (below_step (belU HB.out) hb); clear HB; have HO112 := n0_; have HB := n1_; clear n0_ n1_; (try clear hb); (try clear hb2); (try clear hk); (try clear hi); (try clear ho0)))
      go_loopg [5] k (fun kq v5 w' => ∃ (x5_1 : Int), v5 = .int .i64 x5_1 ∧ Aside0 (aquiferref05_Kind.l0 kq t110 x5_1 = some (r1, r2)) ∧ Aside0 (kq ≤ k) ∧ Aside0 (Kd.R Kd.string 9 w' w.heap.size (fun _ => True) v111 t110) ∧ Aside0 (Below w.heap.size w w'))
      case atStart => exact ⟨(0), (by first | rfl | (simp; done) | (simp [*]; done)), H', ⟨Nat.le_refl _⟩, ⟨RU HO112.out⟩, ⟨belU HB.out⟩⟩
      case round =>
        clear H'
        try clear c2
        try clear c2b0
        try clear c2b1
        try clear p2
        try clear c3
        try clear c3b0
        try clear c3b1
        obtain ⟨x5_1, rfl, HA, HK1, HO_4, HB⟩ := hrel
        cases gk with
        | zero => exact absurd HA.out (by simp [aquiferref05_Kind.l0])
        | succ k1 =>
          have H := HA.out
          clear HA
          simp only [aquiferref05_Kind.l0] at H
          by_cases c6 : x5_1 < (t110.length : Int)
          · rw [if_pos c6] at H
            have c6b0 : decide (x5_1 < (t110.length : Int)) = true := decide_eq_true c6
            clear c6
            by_cases c7 : 0 ≤ x5_1
            · rw [if_pos c7] at H
              have c7b0 : decide (0 ≤ x5_1) = true := decide_eq_true c7
              clear c7
              replace H := Option.bind_eq_some_iff.mp H
              obtain ⟨t116, A80, H⟩ := H
              replace H : (if t116 = 0 then (some (0, 18)) else ((aquiferref05_name.f k1 (rdOf ByteArray.empty t110 x5_1)).bind fun t118 => (if t118 = 2 then (if (wrap64 (x5_1 + 1)) < (t110.length : Int) then (some (0, 18)) else (aquiferref05_Kind.l0 k1 t110 (wrap64 (x5_1 + 1)))) else (aquiferref05_Kind.l0 k1 t110 (wrap64 (x5_1 + 1)))))) = some (r1, r2) := H
              have A8 := Aside0.mk A80
              clear A80
              by_cases c9 : t116 = 0
              · rw [if_pos c9] at H
                have c9b0 : (t116 == 0) = true := beq_iff_eq.mpr c9
                have c9b1 : (t116 != 0) = false := bne_eq_false_iff_eq.mpr c9
                clear c9
                simp only [Option.some.injEq, Prod.mk.injEq] at H
                obtain ⟨rfl, rfl⟩ := H
                obtain ⟨Ao10, co10, eo10⟩ := Kd.R_slice HO_4.out
                subst eo10
                have p115 : 0 ≤ (x5_1 : Int) := of_decide_eq_true (by first | (with_reducible assumption) | assumption)
                have q115 : x5_1 < (t110.length : Int) := of_decide_eq_true (by first | (with_reducible assumption) | assumption)
                obtain ⟨ad115, e115, hx115_0⟩ := Kd.at_string (Kd.R_reads' HO_4.out).2.2 x5_1 p115 q115
                cases e115
                replace p115 := eq_true p115
                replace q115 := eq_true q115
                go_wp2_with (first | ((with_reducible refine gate_callee (f := 85) rfl ?_); refine goesL_ (some 23) rfl rfl Tryd.func85 (by kernel_rfl) rfl #[.string (rdOf ByteArray.empty t110 x5_1)] rfl (by (try simp only [List.map_toArray, List.map_cons, List.map_nil]); first | done | rfl | (simp only [List.length_drop, List.length_take]; rfl)) ?_; (with_reducible refine (aquiferref05_name.calls k1 (rdOf ByteArray.empty t110 x5_1) t116 _ A8.out).mono ?_); rintro e w' ⟨rfl, ⟨nd, rfl⟩⟩; refine ⟨_, rfl, ?_⟩))
                go_ret2
                exact ⟨by first | rfl | (simp [errW_none, errW_some] <;> rfl) | (simp [*, errW_none, errW_some] <;> rfl), belU HB.out⟩
              · rw [if_neg c9] at H
                have c9b0 : (t116 == 0) = false := beq_eq_false_iff_ne.mpr c9
                have c9b1 : (t116 != 0) = true := bne_iff_ne.mpr c9
                replace H := Option.bind_eq_some_iff.mp H
                obtain ⟨t118, A110, H⟩ := H
                replace H : (if t118 = 2 then (if (wrap64 (x5_1 + 1)) < (t110.length : Int) then (some (0, 18)) else (aquiferref05_Kind.l0 k1 t110 (wrap64 (x5_1 + 1)))) else (aquiferref05_Kind.l0 k1 t110 (wrap64 (x5_1 + 1)))) = some (r1, r2) := H
                have A11 := Aside0.mk A110
                clear A110
                by_cases c12 : t118 = 2
                · rw [if_pos c12] at H
                  have c12b0 : (t118 == 2) = true := beq_iff_eq.mpr c12
                  have c12b1 : (t118 != 2) = false := bne_eq_false_iff_eq.mpr c12
                  clear c12
                  by_cases c13 : (wrap64 (x5_1 + 1)) < (t110.length : Int)
                  · rw [if_pos c13] at H
                    have c13b0 : decide ((wrap64 (x5_1 + 1)) < (t110.length : Int)) = true := decide_eq_true c13
                    clear c13
                    simp only [Option.some.injEq, Prod.mk.injEq] at H
                    obtain ⟨rfl, rfl⟩ := H
                    obtain ⟨Ao14, co14, eo14⟩ := Kd.R_slice HO_4.out
                    subst eo14
                    have p115 : 0 ≤ (x5_1 : Int) := of_decide_eq_true (by first | (with_reducible assumption) | assumption)
                    have q115 : x5_1 < (t110.length : Int) := of_decide_eq_true (by first | (with_reducible assumption) | assumption)
                    obtain ⟨ad115, e115, hx115_0⟩ := Kd.at_string (Kd.R_reads' HO_4.out).2.2 x5_1 p115 q115
                    cases e115
                    replace p115 := eq_true p115
                    replace q115 := eq_true q115
                    go_wp2_with (first | ((with_reducible refine gate_callee (f := 85) rfl ?_); refine goesL_ (some 23) rfl rfl Tryd.func85 (by kernel_rfl) rfl #[.string (rdOf ByteArray.empty t110 x5_1)] rfl (by (try simp only [List.map_toArray, List.map_cons, List.map_nil]); first | done | rfl | (simp only [List.length_drop, List.length_take]; rfl)) ?_; (with_reducible refine (aquiferref05_name.calls k1 (rdOf ByteArray.empty t110 x5_1) t116 _ A8.out).mono ?_); rintro e w' ⟨rfl, ⟨nd, rfl⟩⟩; refine ⟨_, rfl, ?_⟩; have p117 : 0 ≤ (x5_1 : Int) := of_decide_eq_true (by first | (with_reducible assumption) | assumption); have q117 : x5_1 < (t110.length : Int) := of_decide_eq_true (by first | (with_reducible assumption) | assumption); obtain ⟨ad117, e117, hx117_0⟩ := Kd.at_string (Kd.R_reads' HO_4.out).2.2 x5_1 p117 q117; obtain rfl : ad115 = ad117 := (by injection e117); replace p117 := eq_true p117; replace q117 := eq_true q117) | (go_at_call 85; (with_reducible refine (aquiferref05_name.calls k1 (rdOf ByteArray.empty t110 x5_1) t118 _ A11.out).mono ?_); rintro e w' ⟨rfl, ⟨nd, rfl⟩⟩))
                    go_ret2
                    exact ⟨by first | rfl | (simp [errW_none, errW_some] <;> rfl) | (simp [*, errW_none, errW_some] <;> rfl), belU HB.out⟩
                  · rw [if_neg c13] at H
                    have c13b0 : decide ((wrap64 (x5_1 + 1)) < (t110.length : Int)) = false := decide_eq_false c13
                    clear c13
                    have H' := Aside0.mk H
                    clear H
                    obtain ⟨Ao15, co15, eo15⟩ := Kd.R_slice HO_4.out
                    subst eo15
                    have p115 : 0 ≤ (x5_1 : Int) := of_decide_eq_true (by first | (with_reducible assumption) | assumption)
                    have q115 : x5_1 < (t110.length : Int) := of_decide_eq_true (by first | (with_reducible assumption) | assumption)
                    obtain ⟨ad115, e115, hx115_0⟩ := Kd.at_string (Kd.R_reads' HO_4.out).2.2 x5_1 p115 q115
                    cases e115
                    replace p115 := eq_true p115
                    replace q115 := eq_true q115
                    go_wp2_with (first | ((with_reducible refine gate_callee (f := 85) rfl ?_); refine goesL_ (some 23) rfl rfl Tryd.func85 (by kernel_rfl) rfl #[.string (rdOf ByteArray.empty t110 x5_1)] rfl (by (try simp only [List.map_toArray, List.map_cons, List.map_nil]); first | done | rfl | (simp only [List.length_drop, List.length_take]; rfl)) ?_; (with_reducible refine (aquiferref05_name.calls k1 (rdOf ByteArray.empty t110 x5_1) t116 _ A8.out).mono ?_); rintro e w' ⟨rfl, ⟨nd, rfl⟩⟩; refine ⟨_, rfl, ?_⟩; have p117 : 0 ≤ (x5_1 : Int) := of_decide_eq_true (by first | (with_reducible assumption) | assumption); have q117 : x5_1 < (t110.length : Int) := of_decide_eq_true (by first | (with_reducible assumption) | assumption); obtain ⟨ad117, e117, hx117_0⟩ := Kd.at_string (Kd.R_reads' HO_4.out).2.2 x5_1 p117 q117; obtain rfl : ad115 = ad117 := (by injection e117); replace p117 := eq_true p117; replace q117 := eq_true q117) | (go_at_call 85; (with_reducible refine (aquiferref05_name.calls k1 (rdOf ByteArray.empty t110 x5_1) t118 _ A11.out).mono ?_); rintro e w' ⟨rfl, ⟨nd, rfl⟩⟩))
                    go_roundg k1
                    case measure => have := HK1.out; omega
                    case rel => exact ⟨(wrap64 (x5_1 + 1)), (by first | rfl | (simp; done) | (simp [*]; done)), H', ⟨by have := HK1.out; omega⟩, ⟨RU HO_4.out⟩, ⟨belU HB.out⟩⟩
                · rw [if_neg c12] at H
                  have c12b0 : (t118 == 2) = false := beq_eq_false_iff_ne.mpr c12
                  have c12b1 : (t118 != 2) = true := bne_iff_ne.mpr c12
                  have H' := Aside0.mk H
                  clear H
                  obtain ⟨Ao16, co16, eo16⟩ := Kd.R_slice HO_4.out
                  subst eo16
                  have p115 : 0 ≤ (x5_1 : Int) := of_decide_eq_true (by first | (with_reducible assumption) | assumption)
                  have q115 : x5_1 < (t110.length : Int) := of_decide_eq_true (by first | (with_reducible assumption) | assumption)
                  obtain ⟨ad115, e115, hx115_0⟩ := Kd.at_string (Kd.R_reads' HO_4.out).2.2 x5_1 p115 q115
                  cases e115
                  replace p115 := eq_true p115
                  replace q115 := eq_true q115
                  go_wp2_with (first | ((with_reducible refine gate_callee (f := 85) rfl ?_); refine goesL_ (some 23) rfl rfl Tryd.func85 (by kernel_rfl) rfl #[.string (rdOf ByteArray.empty t110 x5_1)] rfl (by (try simp only [List.map_toArray, List.map_cons, List.map_nil]); first | done | rfl | (simp only [List.length_drop, List.length_take]; rfl)) ?_; (with_reducible refine (aquiferref05_name.calls k1 (rdOf ByteArray.empty t110 x5_1) t116 _ A8.out).mono ?_); rintro e w' ⟨rfl, ⟨nd, rfl⟩⟩; refine ⟨_, rfl, ?_⟩; have p117 : 0 ≤ (x5_1 : Int) := of_decide_eq_true (by first | (with_reducible assumption) | assumption); have q117 : x5_1 < (t110.length : Int) := of_decide_eq_true (by first | (with_reducible assumption) | assumption); obtain ⟨ad117, e117, hx117_0⟩ := Kd.at_string (Kd.R_reads' HO_4.out).2.2 x5_1 p117 q117; obtain rfl : ad115 = ad117 := (by injection e117); replace p117 := eq_true p117; replace q117 := eq_true q117) | (go_at_call 85; (with_reducible refine (aquiferref05_name.calls k1 (rdOf ByteArray.empty t110 x5_1) t118 _ A11.out).mono ?_); rintro e w' ⟨rfl, ⟨nd, rfl⟩⟩))
                  go_roundg k1
                  case measure => have := HK1.out; omega
                  case rel => exact ⟨(wrap64 (x5_1 + 1)), (by first | rfl | (simp; done) | (simp [*]; done)), H', ⟨by have := HK1.out; omega⟩, ⟨RU HO_4.out⟩, ⟨belU HB.out⟩⟩
            · rw [if_neg c7] at H
              exact absurd H (by simp)
          · rw [if_neg c6] at H
            have c6b0 : decide (x5_1 < (t110.length : Int)) = false := decide_eq_false c6
            clear c6
            by_cases c17 : (t110.length : Int) > 8
            · rw [if_pos c17] at H
              have c17b0 : decide (8 < (t110.length : Int)) = true := decide_eq_true c17
              have c17b1 : decide (8 < t110.length) = true := decide_eq_true (by omega)
              clear c17
              simp only [Option.some.injEq, Prod.mk.injEq] at H
              obtain ⟨rfl, rfl⟩ := H
              obtain ⟨Ao18, co18, eo18⟩ := Kd.R_slice HO_4.out
              subst eo18
              go_wp2
              go_ret2
              exact ⟨by first | rfl | (simp [errW_none, errW_some] <;> rfl) | (simp [*, errW_none, errW_some] <;> rfl), belU HB.out⟩
            · rw [if_neg c17] at H
              have c17b0 : decide (8 < (t110.length : Int)) = false := decide_eq_false c17
              have c17b1 : decide (8 < t110.length) = false := decide_eq_false (by omega)
              clear c17
              obtain ⟨ji19, hji19⟩ : ∃ j_ : Int, (wrap64 ((t110.length : Int) - 1)) = j_ := ⟨_, rfl⟩
              replace H : (if 0 ≤ (ji19) then (if (ji19) < (t110.length : Int) then ((aquiferref05_name.f k1 (rdOf ByteArray.empty t110 (ji19))).bind fun t114 => (some (t114, 0))) else (none)) else (none)) = some (r1, r2) := by first | (rw [hji19] at H; exact H) | (simp only [hji19] at H ⊢; exact H)
              have hji19w : (IntKind.i64.wrap ((t110.length : Int) - 1)) = ji19 := (i64_w _).trans hji19
              by_cases c20 : 0 ≤ (ji19)
              · rw [if_pos c20] at H
                have c20b0 : decide (0 ≤ (ji19)) = true := decide_eq_true c20
                clear c20
                by_cases c21 : (ji19) < (t110.length : Int)
                · rw [if_pos c21] at H
                  have c21b0 : decide ((ji19) < (t110.length : Int)) = true := decide_eq_true c21
                  clear c21
                  replace H := Option.bind_eq_some_iff.mp H
                  obtain ⟨t114, A220, H⟩ := H
                  replace H : (some (t114, 0)) = some (r1, r2) := H
                  have A22 := Aside0.mk A220
                  clear A220
                  simp only [Option.some.injEq, Prod.mk.injEq] at H
                  obtain ⟨rfl, rfl⟩ := H
                  obtain ⟨Ao23, co23, eo23⟩ := Kd.R_slice HO_4.out
                  subst eo23
                  have p113 : 0 ≤ ((ji19) : Int) := of_decide_eq_true (by first | (with_reducible assumption) | assumption)
                  have q113 : (ji19) < (t110.length : Int) := of_decide_eq_true (by first | (with_reducible assumption) | assumption)
                  obtain ⟨ad113, e113, hx113_0⟩ := Kd.at_string (Kd.R_reads' HO_4.out).2.2 (ji19) p113 q113
                  cases e113
                  replace p113 := eq_true p113
                  replace q113 := eq_true q113
                  go_wp2_with (first | ((with_reducible refine gate_callee (f := 85) rfl ?_); refine goesL_ (some 49) rfl rfl Tryd.func85 (by kernel_rfl) rfl #[.string (rdOf ByteArray.empty t110 (ji19))] rfl (by (try simp only [List.map_toArray, List.map_cons, List.map_nil]); first | done | (simp only [hji19]; rfl) | rfl | (simp only [List.length_drop, List.length_take]; rfl)) ?_; (with_reducible refine (aquiferref05_name.calls k1 (rdOf ByteArray.empty t110 (ji19)) t114 _ A22.out).mono ?_); rintro e w' ⟨rfl, ⟨nd, rfl⟩⟩; refine ⟨_, rfl, ?_⟩))
                  go_ret2
                  exact ⟨by first | rfl | (simp [errW_none, errW_some] <;> rfl) | (simp only [← hji19]; first | rfl | (simp [errW_none, errW_some] <;> rfl)) | (simp [*, errW_none, errW_some] <;> rfl), belU HB.out⟩
                · rw [if_neg c21] at H
                  exact absurd H (by simp)
              · rw [if_neg c20] at H
                exact absurd H (by simp)

end Go.Proofs.YtjllbkeobibnkaaDoor.Q

namespace Go.Proofs.YtjllbkeobibnkaaDoor.Q
open Go.RowKit Go.Proofs.YtjllbkeobibnkaaDoorW.PrintWords Go.Proofs.YtjllbkeobibnkaaDoorW.PrintLast Go.Proofs.YtjllbkeobibnkaaDoorW.PrintMore Go.Proofs.YtjllbkeobibnkaaDoorK
attribute [local go_sem] max2_int min2_int max_two min_two max_three min_three max_four min_four   -- for this text's walks alone
attribute [local go_sem ↓] Go.Proofs.YtjllbkeobibnkaaDoorK.isSome_setCell
set_option linter.unusedVariables false
set_option linter.unusedSimpArgs false

/-! ### aquiferref05_Compare: function 67 -/
mutual
def aquiferref05_Compare.l0 : Nat → List ByteArray → List ByteArray → Int → Option (Int)
  | 0, _, _, _ => none
  | k + 1, x5, x6, x7 => if x7 < (x5.length : Int) then (aquiferref05_Compare.j1 k x5 x6 x7 (decide (x7 < (x6.length : Int)))) else (aquiferref05_Compare.j1 k x5 x6 x7 false)
def aquiferref05_Compare.j1 : Nat → List ByteArray → List ByteArray → Int → Bool → Option (Int)
  | 0, _, _, _, _ => none
  | k + 1, x5, x6, x7, x21 => if x21 = true then (if 0 ≤ x7 then (if x7 < (x5.length : Int) then (if x7 < (x6.length : Int) then (if (Op.bytesLess ((rdOf ByteArray.empty x5 x7).toList) ((rdOf ByteArray.empty x6 x7).toList)) = true then (some (-1)) else (if (Op.bytesLess ((rdOf ByteArray.empty x6 x7).toList) ((rdOf ByteArray.empty x5 x7).toList)) = true then (some 1) else (aquiferref05_Compare.l0 k x5 x6 (wrap64 (x7 + 1))))) else (none)) else (none)) else (none)) else (if (x5.length : Int) < (x6.length : Int) then (some (-1)) else (if (x5.length : Int) > (x6.length : Int) then (some 1) else (some 0)))
end
def aquiferref05_Compare.f (k : Nat) (a0 : ByteArray) (a1 : ByteArray) : Option (Int) := (aquiferref05_Names.f k a0).bind fun t119 => ((aquiferref05_Names.f k a1).bind fun t122 => (aquiferref05_Compare.l0 k t119 t122 0))
theorem aquiferref05_Compare.mono_l : ∀ k, (∀ y0 y1 y2, LeO (aquiferref05_Compare.l0 k y0 y1 y2) (aquiferref05_Compare.l0 (k + 1) y0 y1 y2)) ∧ (∀ y0 y1 y2 y3, LeO (aquiferref05_Compare.j1 k y0 y1 y2 y3) (aquiferref05_Compare.j1 (k + 1) y0 y1 y2 y3))
  | 0 => ⟨fun _ _ _ r h => by simp [aquiferref05_Compare.l0] at h, fun _ _ _ _ r h => by simp [aquiferref05_Compare.j1] at h⟩
  | k + 1 => by
    obtain ⟨ih0, ih1⟩ := aquiferref05_Compare.mono_l k
    refine ⟨?_, ?_⟩
    · intro y0 y1 y2
      unfold aquiferref05_Compare.l0
      repeat' first
      | (with_reducible exact ih0 _ _ _)
      | (with_reducible exact ih1 _ _ _ _)
      | (with_reducible exact aquiferref05_Names.mono _ _)
      | (with_reducible exact LeO.refl _)
      | (with_reducible exact LeO.none _)
      | (with_reducible refine LeO.ite ?_ ?_)
      | (with_reducible refine LeO.bind ?_ (fun _ => ?_))
      | exact ih0 _ _ _
      | exact ih1 _ _ _ _
      | exact aquiferref05_Names.mono _ _
      | exact LeO.none _
      | refine LeO.ite ?_ ?_
      | refine LeO.bind ?_ (fun _ => ?_)
    · intro y0 y1 y2 y3
      unfold aquiferref05_Compare.j1
      repeat' first
      | (with_reducible exact ih0 _ _ _)
      | (with_reducible exact ih1 _ _ _ _)
      | (with_reducible exact aquiferref05_Names.mono _ _)
      | (with_reducible exact LeO.refl _)
      | (with_reducible exact LeO.none _)
      | (with_reducible refine LeO.ite ?_ ?_)
      | (with_reducible refine LeO.bind ?_ (fun _ => ?_))
      | exact ih0 _ _ _
      | exact ih1 _ _ _ _
      | exact aquiferref05_Names.mono _ _
      | exact LeO.none _
      | refine LeO.ite ?_ ?_
      | refine LeO.bind ?_ (fun _ => ?_)
theorem aquiferref05_Compare.mono : ∀ a0 a1 k, LeO (aquiferref05_Compare.f k a0 a1) (aquiferref05_Compare.f (k + 1) a0 a1) := by
  intro a0 a1 k
  obtain ⟨ih0, ih1⟩ := aquiferref05_Compare.mono_l k
  unfold aquiferref05_Compare.f
  repeat' first
      | (with_reducible exact ih0 _ _ _)
      | (with_reducible exact ih1 _ _ _ _)
      | (with_reducible exact aquiferref05_Names.mono _ _)
      | (with_reducible exact LeO.refl _)
      | (with_reducible exact LeO.none _)
      | (with_reducible refine LeO.ite ?_ ?_)
      | (with_reducible refine LeO.bind ?_ (fun _ => ?_))
      | exact ih0 _ _ _
      | exact ih1 _ _ _ _
      | exact aquiferref05_Names.mono _ _
      | exact LeO.none _
      | refine LeO.ite ?_ ?_
      | refine LeO.bind ?_ (fun _ => ?_)
set_option maxHeartbeats 8000000 in
set_option maxRecDepth 100000 in
theorem aquiferref05_Compare.calls (k : Nat) (a0 : ByteArray) (a1 : ByteArray) (r : Int) (w : World) (h : aquiferref05_Compare.f k a0 a1 = some r) :
    Calls Tryd.prog 67 #[.string a0, .string a1] w fun e w' => e = .returned (.int .i64 r) ∧ Below w.heap.size w w' := by
  have HB := Aside0.mk (Below.refl w.heap.size w)
  have H : ((aquiferref05_Names.f k a0).bind fun t119 => ((aquiferref05_Names.f k a1).bind fun t122 => (aquiferref05_Compare.l0 k t119 t122 0))) = some r := h
  clear h
  replace H := Option.bind_eq_some_iff.mp H
  obtain ⟨t119, A30, H⟩ := H
  replace H : ((aquiferref05_Names.f k a1).bind fun t122 => (aquiferref05_Compare.l0 k t119 t122 0)) = some r := H
  have A3 := Aside0.mk A30
  clear A30
  replace H := Option.bind_eq_some_iff.mp H
  obtain ⟨t122, A40, H⟩ := H
  replace H : (aquiferref05_Compare.l0 k t119 t122 0) = some r := H
  have A4 := Aside0.mk A40
  clear A40
  have H' := Aside0.mk H
  clear H
  go_enter Tryd.func67, Tryd.ntmps67
  go_wp2_with (first | (go_at_call 84; (with_reducible refine (aquiferref05_Names.calls k a0 t119 _ A3.out).mono ?_); rintro e w5 ⟨v120, rfl, ho0, hb⟩; have n0_ := Aside0.mk (Kd.R_lower ho0 (sizU HB.out)); have n1_ := Aside0.mk (below_step (belU HB.out) hb); clear HB; have HO121 := n0_; have HB := n1_; clear n0_ n1_; (try clear hb); (try clear hb2); (try clear hk); (try clear hi); (try clear ho0)) | (go_at_call 84; (with_reducible refine (aquiferref05_Names.calls k a1 t122 _ A4.out).mono ?_); rintro e w6 ⟨v123, rfl, ho0, hb⟩; have n0_ := Aside0.mk (Kd.R_elder' (RU HO121.out) (Kd.R_base ho0) hb); have n1_ := Aside0.mk (Kd.R_lower (Kd.R_new' ho0 (Kd.R_lt (RU HO121.out))) (sizU HB.out)); have n2_ := Aside0.mk (below_step (belU HB.out) hb); clear HO121; clear HB; have HO121 := n0_; have HO124 := n1_; have HB := n2_; clear n0_ n1_ n2_; (try clear hb); (try clear hb2); (try clear hk); (try clear hi); (try clear ho0)))
  repeat (go_quiet (first | (go_at_call 84; (with_reducible refine (aquiferref05_Names.calls k a0 t119 _ A3.out).mono ?_); rintro e w5 ⟨v120, rfl, ho0, hb⟩; have n0_ := Aside0.mk (Kd.R_lower ho0 (sizU HB.out)); have n1_ := Aside0.mk (below_step (belU HB.out) hb); clear HB; have HO121 := n0_; have HB := n1_; clear n0_ n1_; (try clear hb); (try clear hb2); (try clear hk); (try clear hi); (try clear ho0)) | (go_at_call 84; (with_reducible refine (aquiferref05_Names.calls k a1 t122 _ A4.out).mono ?_); rintro e w6 ⟨v123, rfl, ho0, hb⟩; have n0_ := Aside0.mk (Kd.R_elder' (RU HO121.out) (Kd.R_base ho0) hb); have n1_ := Aside0.mk (Kd.R_lower (Kd.R_new' ho0 (Kd.R_lt (RU HO121.out))) (sizU HB.out)); have n2_ := Aside0.mk (below_step (belU HB.out) hb); clear HO121; clear HB; have HO121 := n0_; have HO124 := n1_; have HB := n2_; clear n0_ n1_ n2_; (try clear hb); (try clear hb2); (try clear hk); (try clear hi); (try clear ho0))); try go_wp2_with (first | (go_at_call 84; (with_reducible refine (aquiferref05_Names.calls k a0 t119 _ A3.out).mono ?_); rintro e w5 ⟨v120, rfl, ho0, hb⟩; have n0_ := Aside0.mk (Kd.R_lower ho0 (sizU HB.out)); have n1_ := Aside0.mk (below_step (belU HB.out) hb); clear HB; have HO121 := n0_; have HB := n1_; clear n0_ n1_; (try clear hb); (try clear hb2); (try clear hk); (try clear hi); (try clear ho0)) | (go_at_call 84; (with_reducible refine (aquiferref05_Names.calls k a1 t122 _ A4.out).mono ?_); rintro e w6 ⟨v123, rfl, ho0, hb⟩; have n0_ := Aside0.mk (Kd.R_elder' (RU HO121.out) (Kd.R_base ho0) hb); have n1_ := Aside0.mk (Kd.R_lower (Kd.R_new' ho0 (Kd.R_lt (RU HO121.out))) (sizU HB.out)); have n2_ := Aside0.mk (below_step (belU HB.out) hb); clear HO121; clear HB; have HO121 := n0_; have HO124 := n1_; have HB := n2_; clear n0_ n1_ n2_; (try clear hb); (try clear hb2); (try clear hk); (try clear hi); (try clear ho0))))
  go_loopg [7] k (fun kq v7 w' => ∃ (x7_1 : Int), v7 = .int .i64 x7_1 ∧ Aside0 (aquiferref05_Compare.l0 kq t119 t122 x7_1 = some r) ∧ Aside0 (kq ≤ k) ∧ Aside0 (Kd.R Kd.string 9 w' w.heap.size (fun k_ => some k_ ≠ (v123 : Value).ownBlock) v120 t119) ∧ Aside0 (Kd.R Kd.string 9 w' w.heap.size (fun k_ => some k_ ≠ (v120 : Value).ownBlock) v123 t122) ∧ Aside0 (Below w.heap.size w w'))
  case atStart => exact ⟨(0), (by first | rfl | (simp; done) | (simp [*]; done)), H', ⟨Nat.le_refl _⟩, ⟨by (with_reducible repeat (first | apply Kd.R_alloc | apply Kd.R_drewN | apply Kd.R_drew)); exact Kd.R_mono HO121.out (fun _ hk => hk.2)⟩, ⟨by (with_reducible repeat (first | apply Kd.R_alloc | apply Kd.R_drewN | apply Kd.R_drew)); exact Kd.R_mono HO124.out (fun _ hk => hk.2)⟩, ⟨belU HB.out⟩⟩
  case round =>
    clear H'
    try clear p2
    try clear c6
    obtain ⟨x7_1, rfl, HA, HK1, HO_5, HO_6, HB⟩ := hrel
    cases gk with
    | zero => exact absurd HA.out (by simp [aquiferref05_Compare.l0])
    | succ k1 =>
      have H := HA.out
      clear HA
      simp only [aquiferref05_Compare.l0] at H
      have HC7 := Aside0.mk H
      clear H
      go_upto_region 4 with (fail)
      repeat (go_quiet (fail); go_upto_region 4 with (fail))
      go_cut [21] (fun v21 wc => ∃ (kq : Nat) (x21_6 : Bool), v21 = .bool x21_6 ∧ Aside0 (aquiferref05_Compare.j1 kq t119 t122 x7_1 x21_6 = some r) ∧ Aside0 (kq ≤ k1) ∧ Aside0 (Kd.R Kd.string 9 wc w.heap.size (fun k_ => some k_ ≠ (v123 : Value).ownBlock) v120 t119) ∧ Aside0 (Kd.R Kd.string 9 wc w.heap.size (fun k_ => some k_ ≠ (v120 : Value).ownBlock) v123 t122) ∧ Aside0 (Below w.heap.size w wc))
      case first =>
        have H := HC7.out
        clear HC7
        by_cases c8 : x7_1 < (t119.length : Int)
        · rw [if_pos c8] at H
          have c8b0 : decide (x7_1 < (t119.length : Int)) = true := decide_eq_true c8
          clear c8
          (first | rw [c8b0] | (simp only [i64_w, i32_w]; rw [c8b0]) | skip)
          have H' := Aside0.mk H
          clear H
          obtain ⟨Ao9, co9, eo9⟩ := Kd.R_slice HO_5.out
          subst eo9
          obtain ⟨Ao10, co10, eo10⟩ := Kd.R_slice HO_6.out
          subst eo10
          go_wp2
          repeat (go_quiet (fail); try go_wp2)
          go_meet
          case rel => exact ⟨_, (decide (x7_1 < (t122.length : Int))), (by first | rfl | (simp; done) | (simp [*]; done)), H', ⟨by have := HK1.out; first | omega | exact Nat.le_refl _⟩, ⟨RU HO_5.out⟩, ⟨RU HO_6.out⟩, ⟨belU HB.out⟩⟩
        · rw [if_neg c8] at H
          have c8b0 : decide (x7_1 < (t119.length : Int)) = false := decide_eq_false c8
          clear c8
          (first | rw [c8b0] | (simp only [i64_w, i32_w]; rw [c8b0]) | skip)
          have H' := Aside0.mk H
          clear H
          obtain ⟨Ao11, co11, eo11⟩ := Kd.R_slice HO_5.out
          subst eo11
          go_wp2
          repeat (go_quiet (fail); try go_wp2)
          go_meet
          case rel => exact ⟨_, (false), (by first | rfl | (simp; done) | (simp [*]; done)), H', ⟨by have := HK1.out; first | omega | exact Nat.le_refl _⟩, ⟨RU HO_5.out⟩, ⟨RU HO_6.out⟩, ⟨belU HB.out⟩⟩
      case rest =>
        clear HC7
        try clear p2
        try clear c6
        try clear c8
        try clear c8b0
        try clear p2
        obtain ⟨kq, x21_6, rfl, HA, HJ6, HO_5, HO_6, HB⟩ := hcut
        cases kq with
        | zero => exact absurd HA.out (by simp [aquiferref05_Compare.j1])
        | succ kj6 =>
          have H := HA.out
          clear HA
          simp only [aquiferref05_Compare.j1] at H
          by_cases c12 : x21_6 = true
          · subst c12
            have H1 : (if 0 ≤ x7_1 then (if x7_1 < (t119.length : Int) then (if x7_1 < (t122.length : Int) then (if (Op.bytesLess ((rdOf ByteArray.empty t119 x7_1).toList) ((rdOf ByteArray.empty t122 x7_1).toList)) = true then (some (-1)) else (if (Op.bytesLess ((rdOf ByteArray.empty t122 x7_1).toList) ((rdOf ByteArray.empty t119 x7_1).toList)) = true then (some 1) else (aquiferref05_Compare.l0 kj6 t119 t122 (wrap64 (x7_1 + 1))))) else (none)) else (none)) else (none)) = some r := by rw [if_pos rfl] at H; exact H
            clear H
            have H := H1
            clear H1
            by_cases c13 : 0 ≤ x7_1
            · rw [if_pos c13] at H
              have c13b0 : decide (0 ≤ x7_1) = true := decide_eq_true c13
              clear c13
              by_cases c14 : x7_1 < (t119.length : Int)
              · rw [if_pos c14] at H
                have c14b0 : decide (x7_1 < (t119.length : Int)) = true := decide_eq_true c14
                clear c14
                by_cases c15 : x7_1 < (t122.length : Int)
                · rw [if_pos c15] at H
                  have c15b0 : decide (x7_1 < (t122.length : Int)) = true := decide_eq_true c15
                  clear c15
                  by_cases c16 : (Op.bytesLess ((rdOf ByteArray.empty t119 x7_1).toList) ((rdOf ByteArray.empty t122 x7_1).toList)) = true
                  · rw [if_pos c16] at H
                    have c16b0 : (Op.bytesLess ((rdOf ByteArray.empty t119 x7_1).toList) ((rdOf ByteArray.empty t122 x7_1).toList)) = true := c16
                    try have c16g : (((rdOf ByteArray.empty t122 x7_1).toList) == ((rdOf ByteArray.empty t119 x7_1).toList)) = false := bl_ne _ _ c16b0
                    clear c16
                    obtain rfl := Option.some.inj H
                    obtain ⟨Ao17, co17, eo17⟩ := Kd.R_slice HO_5.out
                    subst eo17
                    have p125 : 0 ≤ (x7_1 : Int) := of_decide_eq_true (by first | (with_reducible assumption) | assumption)
                    have q125 : x7_1 < (t119.length : Int) := of_decide_eq_true (by first | (with_reducible assumption) | assumption)
                    obtain ⟨ad125, e125, hx125_0⟩ := Kd.at_string (Kd.R_reads' HO_5.out).2.2 x7_1 p125 q125
                    cases e125
                    replace p125 := eq_true p125
                    replace q125 := eq_true q125
                    obtain ⟨Ao18, co18, eo18⟩ := Kd.R_slice HO_6.out
                    subst eo18
                    have p126 : 0 ≤ (x7_1 : Int) := of_decide_eq_true (by first | (with_reducible assumption) | assumption)
                    have q126 : x7_1 < (t122.length : Int) := of_decide_eq_true (by first | (with_reducible assumption) | assumption)
                    obtain ⟨ad126, e126, hx126_0⟩ := Kd.at_string (Kd.R_reads' HO_6.out).2.2 x7_1 p126 q126
                    cases e126
                    replace p126 := eq_true p126
                    replace q126 := eq_true q126
                    go_wp2
                    repeat (go_quiet (fail); try go_wp2)
                    go_ret
                    exact ⟨by first | rfl | (simp [errW_none, errW_some] <;> rfl) | (simp [*, errW_none, errW_some] <;> rfl), belU HB.out⟩
                  · rw [if_neg c16] at H
                    have c16b0 : (Op.bytesLess ((rdOf ByteArray.empty t119 x7_1).toList) ((rdOf ByteArray.empty t122 x7_1).toList)) = false := by simpa using c16
                    try have c16g : (((rdOf ByteArray.empty t122 x7_1).toList) == ((rdOf ByteArray.empty t119 x7_1).toList)) = true := bl_eqb _ _ (by assumption) c16b0
                    clear c16
                    by_cases c19 : (Op.bytesLess ((rdOf ByteArray.empty t122 x7_1).toList) ((rdOf ByteArray.empty t119 x7_1).toList)) = true
                    · rw [if_pos c19] at H
                      have c19b0 : (Op.bytesLess ((rdOf ByteArray.empty t122 x7_1).toList) ((rdOf ByteArray.empty t119 x7_1).toList)) = true := c19
                      try have c19g : (((rdOf ByteArray.empty t119 x7_1).toList) == ((rdOf ByteArray.empty t122 x7_1).toList)) = false := bl_ne _ _ c19b0
                      clear c19
                      obtain rfl := Option.some.inj H
                      obtain ⟨Ao20, co20, eo20⟩ := Kd.R_slice HO_5.out
                      subst eo20
                      have p125 : 0 ≤ (x7_1 : Int) := of_decide_eq_true (by first | (with_reducible assumption) | assumption)
                      have q125 : x7_1 < (t119.length : Int) := of_decide_eq_true (by first | (with_reducible assumption) | assumption)
                      obtain ⟨ad125, e125, hx125_0⟩ := Kd.at_string (Kd.R_reads' HO_5.out).2.2 x7_1 p125 q125
                      cases e125
                      replace p125 := eq_true p125
                      replace q125 := eq_true q125
                      obtain ⟨Ao21, co21, eo21⟩ := Kd.R_slice HO_6.out
                      subst eo21
                      have p126 : 0 ≤ (x7_1 : Int) := of_decide_eq_true (by first | (with_reducible assumption) | assumption)
                      have q126 : x7_1 < (t122.length : Int) := of_decide_eq_true (by first | (with_reducible assumption) | assumption)
                      obtain ⟨ad126, e126, hx126_0⟩ := Kd.at_string (Kd.R_reads' HO_6.out).2.2 x7_1 p126 q126
                      cases e126
                      replace p126 := eq_true p126
                      replace q126 := eq_true q126
                      have p127 : 0 ≤ (x7_1 : Int) := of_decide_eq_true (by first | (with_reducible assumption) | assumption)
                      have q127 : x7_1 < (t119.length : Int) := of_decide_eq_true (by first | (with_reducible assumption) | assumption)
                      obtain ⟨ad127, e127, hx127_0⟩ := Kd.at_string (Kd.R_reads' HO_5.out).2.2 x7_1 p127 q127
                      obtain rfl : ad125 = ad127 := (by injection e127)
                      replace p127 := eq_true p127
                      replace q127 := eq_true q127
                      have p128 : 0 ≤ (x7_1 : Int) := of_decide_eq_true (by first | (with_reducible assumption) | assumption)
                      have q128 : x7_1 < (t122.length : Int) := of_decide_eq_true (by first | (with_reducible assumption) | assumption)
                      obtain ⟨ad128, e128, hx128_0⟩ := Kd.at_string (Kd.R_reads' HO_6.out).2.2 x7_1 p128 q128
                      obtain rfl : ad126 = ad128 := (by injection e128)
                      replace p128 := eq_true p128
                      replace q128 := eq_true q128
                      go_wp2
                      repeat (go_quiet (fail); try go_wp2)
                      go_ret
                      exact ⟨by first | rfl | (simp [errW_none, errW_some] <;> rfl) | (simp [*, errW_none, errW_some] <;> rfl), belU HB.out⟩
                    · rw [if_neg c19] at H
                      have c19b0 : (Op.bytesLess ((rdOf ByteArray.empty t122 x7_1).toList) ((rdOf ByteArray.empty t119 x7_1).toList)) = false := by simpa using c19
                      try have c19g : (((rdOf ByteArray.empty t119 x7_1).toList) == ((rdOf ByteArray.empty t122 x7_1).toList)) = true := bl_eqb _ _ (by assumption) c19b0
                      clear c19
                      have H' := Aside0.mk H
                      clear H
                      obtain ⟨Ao22, co22, eo22⟩ := Kd.R_slice HO_5.out
                      subst eo22
                      have p125 : 0 ≤ (x7_1 : Int) := of_decide_eq_true (by first | (with_reducible assumption) | assumption)
                      have q125 : x7_1 < (t119.length : Int) := of_decide_eq_true (by first | (with_reducible assumption) | assumption)
                      obtain ⟨ad125, e125, hx125_0⟩ := Kd.at_string (Kd.R_reads' HO_5.out).2.2 x7_1 p125 q125
                      cases e125
                      replace p125 := eq_true p125
                      replace q125 := eq_true q125
                      obtain ⟨Ao23, co23, eo23⟩ := Kd.R_slice HO_6.out
                      subst eo23
                      have p126 : 0 ≤ (x7_1 : Int) := of_decide_eq_true (by first | (with_reducible assumption) | assumption)
                      have q126 : x7_1 < (t122.length : Int) := of_decide_eq_true (by first | (with_reducible assumption) | assumption)
                      obtain ⟨ad126, e126, hx126_0⟩ := Kd.at_string (Kd.R_reads' HO_6.out).2.2 x7_1 p126 q126
                      cases e126
                      replace p126 := eq_true p126
                      replace q126 := eq_true q126
                      have p127 : 0 ≤ (x7_1 : Int) := of_decide_eq_true (by first | (with_reducible assumption) | assumption)
                      have q127 : x7_1 < (t119.length : Int) := of_decide_eq_true (by first | (with_reducible assumption) | assumption)
                      obtain ⟨ad127, e127, hx127_0⟩ := Kd.at_string (Kd.R_reads' HO_5.out).2.2 x7_1 p127 q127
                      obtain rfl : ad125 = ad127 := (by injection e127)
                      replace p127 := eq_true p127
                      replace q127 := eq_true q127
                      have p128 : 0 ≤ (x7_1 : Int) := of_decide_eq_true (by first | (with_reducible assumption) | assumption)
                      have q128 : x7_1 < (t122.length : Int) := of_decide_eq_true (by first | (with_reducible assumption) | assumption)
                      obtain ⟨ad128, e128, hx128_0⟩ := Kd.at_string (Kd.R_reads' HO_6.out).2.2 x7_1 p128 q128
                      obtain rfl : ad126 = ad128 := (by injection e128)
                      replace p128 := eq_true p128
                      replace q128 := eq_true q128
                      go_wp2
                      repeat (go_quiet (fail); try go_wp2)
                      go_roundg kj6
                      case measure => have := HK1.out; have := HJ6.out; omega
                      case rel => exact ⟨(wrap64 (x7_1 + 1)), (by first | rfl | (simp; done) | (simp [*]; done)), H', ⟨by have := HK1.out; have := HJ6.out; omega⟩, ⟨RU HO_5.out⟩, ⟨RU HO_6.out⟩, ⟨belU HB.out⟩⟩
                · rw [if_neg c15] at H
                  exact absurd H (by simp)
              · rw [if_neg c14] at H
                exact absurd H (by simp)
            · rw [if_neg c13] at H
              exact absurd H (by simp)
          · replace c12 := Bool.eq_false_iff.mpr c12
            subst c12
            have H1 : (if (t119.length : Int) < (t122.length : Int) then (some (-1)) else (if (t119.length : Int) > (t122.length : Int) then (some 1) else (some 0))) = some r := by rw [if_neg (show ¬ (false = true) by decide)] at H; exact H
            clear H
            have H := H1
            clear H1
            by_cases c24 : (t119.length : Int) < (t122.length : Int)
            · rw [if_pos c24] at H
              have c24b0 : decide ((t119.length : Int) < (t122.length : Int)) = true := decide_eq_true c24
              have c24b1 : decide (t119.length < t122.length) = true := decide_eq_true (Int.ofNat_lt.mp c24)
              clear c24
              obtain rfl := Option.some.inj H
              obtain ⟨Ao25, co25, eo25⟩ := Kd.R_slice HO_5.out
              subst eo25
              obtain ⟨Ao26, co26, eo26⟩ := Kd.R_slice HO_6.out
              subst eo26
              go_wp2
              repeat (go_quiet (fail); try go_wp2)
              go_ret
              exact ⟨by first | rfl | (simp [errW_none, errW_some] <;> rfl) | (simp [*, errW_none, errW_some] <;> rfl), belU HB.out⟩
            · rw [if_neg c24] at H
              have c24b0 : decide ((t119.length : Int) < (t122.length : Int)) = false := decide_eq_false c24
              have c24b1 : decide (t119.length < t122.length) = false := decide_eq_false (fun h => c24 (Int.ofNat_lt.mpr h))
              clear c24
              by_cases c27 : (t119.length : Int) > (t122.length : Int)
              · rw [if_pos c27] at H
                have c27b0 : decide ((t122.length : Int) < (t119.length : Int)) = true := decide_eq_true c27
                have c27b1 : decide (t122.length < t119.length) = true := decide_eq_true (Int.ofNat_lt.mp c27)
                clear c27
                obtain rfl := Option.some.inj H
                obtain ⟨Ao28, co28, eo28⟩ := Kd.R_slice HO_5.out
                subst eo28
                obtain ⟨Ao29, co29, eo29⟩ := Kd.R_slice HO_6.out
                subst eo29
                go_wp2
                repeat (go_quiet (fail); try go_wp2)
                go_ret
                exact ⟨by first | rfl | (simp [errW_none, errW_some] <;> rfl) | (simp [*, errW_none, errW_some] <;> rfl), belU HB.out⟩
              · rw [if_neg c27] at H
                have c27b0 : decide ((t122.length : Int) < (t119.length : Int)) = false := decide_eq_false c27
                have c27b1 : decide (t122.length < t119.length) = false := decide_eq_false (fun h => c27 (Int.ofNat_lt.mpr h))
                clear c27
                obtain rfl := Option.some.inj H
                obtain ⟨Ao30, co30, eo30⟩ := Kd.R_slice HO_5.out
                subst eo30
                obtain ⟨Ao31, co31, eo31⟩ := Kd.R_slice HO_6.out
                subst eo31
                go_wp2
                repeat (go_quiet (fail); try go_wp2)
                go_ret
                exact ⟨by first | rfl | (simp [errW_none, errW_some] <;> rfl) | (simp [*, errW_none, errW_some] <;> rfl), belU HB.out⟩

end Go.Proofs.YtjllbkeobibnkaaDoor.Q

namespace Go.Proofs.YtjllbkeobibnkaaDoor.Q
open Go Go.Proofs Go.Shelf Go.RowKit Go.Lib Go.Sort Go.Proofs.YtjllbkeobibnkaaDoorP Go.Proofs.YtjllbkeobibnkaaDoorK Go.Proofs.YtjllbkeobibnkaaDoorW.PrintWords Go.Proofs.YtjllbkeobibnkaaDoorW.PrintLast Go.Proofs.YtjllbkeobibnkaaDoorW.PrintMore
set_option linter.unusedSimpArgs false
set_option linter.unusedVariables false
/-! ### The document's Names, Compare, Kind -/
theorem rdB (l : List ByteArray) (i : Nat) (h : i < l.length) : rdOf ByteArray.empty l (i : Int) = l[i] := by unfold rdOf; simp [h]
theorem wr1 (i : Nat) (h : i < 1048577) : wrap64 ((i : Int) + 1) = ((i + 1 : Nat) : Int) := by unfold wrap64; omega
theorem wr (i : Nat) (h : i < 1048576) : wrap64 ((i : Int) + 1) = ((i + 1 : Nat) : Int) := by unfold wrap64; omega
def lastApp (c : UInt8) : List (List UInt8) → List (List UInt8)
  | [] => [[c]]
  | [n] => [n ++ [c]]
  | n :: m :: ns => n :: lastApp c (m :: ns)
theorem names_snoc (l : List UInt8) (c : UInt8) : names (l ++ [c]) = if c = 47 then names l ++ [[]] else lastApp c (names l) := by
  induction l with
  | nil =>
    simp only [List.nil_append, names]
    split <;> rfl
  | cons b l ih =>
    rw [List.cons_append]
    have hne := names_ne l
    by_cases hb : b = 47
    · simp only [names, if_pos hb]
      rw [ih]
      by_cases hc : c = 47
      · rw [if_pos hc, if_pos hc]
        rfl
      · rw [if_neg hc, if_neg hc]
        cases hn : names l with
        | nil => exact absurd hn hne
        | cons n ns => rfl
    · simp only [names, if_neg hb]
      rw [ih]
      cases hn : names l with
      | nil => exact absurd hn hne
      | cons n ns =>
        by_cases hc : c = 47
        · rw [if_pos hc, if_pos hc]
          rfl
        · rw [if_neg hc, if_neg hc]
          cases ns <;> rfl
theorem lastApp_set (c : UInt8) : ∀ l : List (List UInt8), l ≠ [] → lastApp c l = l.set (l.length - 1) (l.getD (l.length - 1) [] ++ [c])
  | [], h => absurd rfl h
  | [n], _ => rfl
  | n :: m :: ns, _ => by
    have ih := lastApp_set c (m :: ns) (by simp)
    show n :: lastApp c (m :: ns) = _
    rw [ih]
    simp
theorem bt_47 (s : ByteArray) (i : Nat) (h : i < s.size) : bt s (i : Int) = 47 ↔ s.data.toList[i]'h = 47 := by
  have h1 : bt s (i : Int) = ((s[i]'h).toNat : Int) := by simp [bt, h]
  have h2 : s.data.toList[i]'h = s[i]'h := rfl
  rw [h1, h2]
  constructor
  · intro e
    apply UInt8.toNat_inj.1
    have e2 : (s[i]'h).toNat = 47 := by omega
    rw [e2]
    rfl
  · intro e
    rw [e]
    rfl
theorem map_data_len {L : List ByteArray} {M : List (List UInt8)} (h : L.map (·.data.toList) = M) : L.length = M.length := by
  rw [← h, List.length_map]
theorem names_len (l : List UInt8) : (names l).length ≤ l.length + 1 := by
  induction l with
  | nil => simp [names]
  | cons c l ih =>
    unfold names
    split
    · simp only [List.length_cons]; omega
    · split
      · simp
      · rename_i h
        rw [h] at ih
        simp only [List.length_cons] at ih ⊢
        omega
theorem flat_size : ∀ (L : List (List UInt8)) (j : Nat), (L.getD j []).length ≤ (L.map List.length).sum
  | [], j => by simp
  | n :: L, 0 => by simp
  | n :: L, j + 1 => by
    have := flat_size L j
    simp only [List.getD_cons_succ, List.map_cons, List.sum_cons]
    omega
theorem names_sum (l : List UInt8) : ((names l).map List.length).sum ≤ l.length := by
  induction l with
  | nil => simp [names]
  | cons c l ih =>
    unfold names
    split
    · simp only [List.map_cons, List.sum_cons, List.length_nil, List.length_cons]; omega
    · split
      · simp
      · rename_i h
        rw [h] at ih
        simp only [List.map_cons, List.sum_cons, List.length_cons] at ih ⊢
        omega
theorem names_loop (s : ByteArray) (hs : s.size ≤ 65536) (d : Nat) : ∀ (i k : Nat) (L : List ByteArray), i + d = s.size → d < k → L.map (·.data.toList) = names (s.data.toList.take i) → ∃ M, aquiferref05_Names.l0 k s L (i : Int) = some M ∧ M.map (·.data.toList) = names s.data.toList := by
  have hsz : s.data.toList.length = s.size := rfl
  induction d with
  | zero =>
    intro i k L h hk hL
    obtain ⟨k, rfl⟩ : ∃ q, k = q + 1 := ⟨k - 1, by omega⟩
    refine ⟨L, ?_, ?_⟩
    · unfold aquiferref05_Names.l0
      rw [if_neg (by omega)]
    · rw [hL, List.take_of_length_le (by omega)]
  | succ d ih =>
    intro i k L h hk hL
    obtain ⟨k, rfl⟩ : ∃ q, k = q + 1 := ⟨k - 1, by omega⟩
    have hi : i < s.size := by omega
    have hi' : i < s.data.toList.length := by omega
    have hl := map_data_len hL
    have hln := names_len (s.data.toList.take i)
    have hne := names_ne (s.data.toList.take i)
    have hpos : 0 < L.length := by
      rw [hl]
      exact List.length_pos_iff.2 hne
    have hlt : (s.data.toList.take i).length ≤ 65536 := by rw [List.length_take]; omega
    have hsn := names_snoc (s.data.toList.take i) (s.data.toList[i]'hi')
    rw [← List.take_succ_eq_append_getElem hi'] at hsn
    unfold aquiferref05_Names.l0
    rw [if_pos (by omega), if_pos (by omega), wr i (by omega)]
    by_cases hc : bt s (i : Int) = 47
    · rw [if_pos hc, if_pos (by omega)]
      refine ih (i + 1) k _ (by omega) (by omega) ?_
      rw [hsn, if_pos ((bt_47 s i hi).1 hc), List.map_append, hL]
      rfl
    · have hw : wrap64 ((L.length : Int) - 1) = ((L.length - 1 : Nat) : Int) := by unfold wrap64; omega
      rw [if_neg hc, hw, if_pos (by omega), if_pos (by omega), if_pos (by omega), if_pos (by omega)]
      have hrd : (rdOf ByteArray.empty L ((L.length - 1 : Nat) : Int)).data.toList = (names (s.data.toList.take i)).getD (L.length - 1) [] := by
        unfold rdOf
        rw [← hL]
        simp [List.getD_eq_getElem?_getD]
        cases L[L.length - 1]? <;> rfl
      have hex : (s.extract ((i : Nat) : Int).toNat (((i + 1 : Nat) : Int)).toNat).data.toList = [s.data.toList[i]'hi'] := by
        simp only [Int.toNat_natCast, ByteArray.data_extract, Array.toList_extract]
        rw [List.extract_eq_take_drop, show i + 1 - i = 1 by omega, List.drop_eq_getElem_cons hi']
        rfl
      have hsz1 : (rdOf ByteArray.empty L ((L.length - 1 : Nat) : Int)).size ≤ 65536 := by
        have h1 := flat_size (names (s.data.toList.take i)) (L.length - 1)
        have h2 := names_sum (s.data.toList.take i)
        have h3 : (rdOf ByteArray.empty L ((L.length - 1 : Nat) : Int)).size = (rdOf ByteArray.empty L ((L.length - 1 : Nat) : Int)).data.toList.length := rfl
        rw [h3, hrd]
        omega
      have hsz2 : (s.extract ((i : Nat) : Int).toNat (((i + 1 : Nat) : Int)).toNat).size = 1 := by
        have h3 : (s.extract ((i : Nat) : Int).toNat (((i + 1 : Nat) : Int)).toNat).size = (s.extract ((i : Nat) : Int).toNat (((i + 1 : Nat) : Int)).toNat).data.toList.length := rfl
        rw [h3, hex]
        rfl
      rw [if_pos (by omega)]
      refine ih (i + 1) k _ (by omega) (by omega) ?_
      rw [hsn, if_neg (fun e => hc ((bt_47 s i hi).2 e)), lastApp_set _ _ hne, List.map_set, hL, ByteArray.data_append, Array.toList_append, hrd, hex, ← hl]
      rfl
theorem refnames (s : ByteArray) (hs : s.size ≤ 65536) (k : Nat) (hk : s.size < k) : ∃ M, aquiferref05_Names.f k s = some M ∧ M.map (·.data.toList) = names s.data.toList :=
  names_loop s hs s.size 0 k [⟨#[]⟩] (by omega) hk rfl
theorem cmp_less : ∀ x y : List UInt8, Lib.compareBytes x y = if Op.bytesLess x y = true then -1 else if Op.bytesLess y x = true then 1 else 0
  | [], [] => rfl
  | [], _ :: _ => rfl
  | _ :: _, [] => rfl
  | a :: x, b :: y => by
    have ih := cmp_less x y
    simp only [Lib.compareBytes, Op.bytesLess, Bool.or_eq_true, decide_eq_true_eq, Bool.and_eq_true, beq_iff_eq]
    by_cases h1 : a < b
    · rw [if_pos h1, if_pos (.inl h1)]
    · rw [if_neg h1]
      by_cases h2 : b < a
      · have hn : a ≠ b := fun e => by subst e; exact UInt8.lt_irrefl _ h2
        rw [if_pos h2, if_neg (by rintro (h | h); · exact h1 h
                                  · exact hn h.1), if_pos (.inl h2)]
      · have he : a = b := UInt8.le_antisymm (UInt8.not_lt.1 h2) (UInt8.not_lt.1 h1)
        subst he
        rw [if_neg h1, ih]
        simp [UInt8.lt_irrefl]
theorem cmp_loop (x y : List ByteArray) (hx : x.length ≤ 100000) (d : Nat) : ∀ (i k : Nat), min x.length y.length ≤ i + d → i ≤ x.length → i ≤ y.length → 2 * d + 1 < k → aquiferref05_Compare.l0 k x y (i : Int) = some (cmpN ((x.map (·.data.toList)).drop i) ((y.map (·.data.toList)).drop i)) := by
  have hend : ∀ (i k : Nat), i ≤ x.length → i ≤ y.length → (i = x.length ∨ i = y.length) → aquiferref05_Compare.j1 (k + 1) x y (i : Int) false = some (cmpN ((x.map (·.data.toList)).drop i) ((y.map (·.data.toList)).drop i)) := by
    intro i k h1 h2 h3
    have he := lex_end Lib.compareBytes (x.map (·.data.toList)) (y.map (·.data.toList)) i (by rw [List.length_map]; exact h1) (by rw [List.length_map]; exact h2) (by rw [List.length_map, List.length_map]; exact h3)
    unfold aquiferref05_Compare.j1 cmpN
    rw [he, if_neg (by decide), List.length_map, List.length_map]
    unfold Lib.compareInt
    split
    · rfl
    · split <;> rfl
  have hstop : ∀ (i k : Nat), i ≤ x.length → i ≤ y.length → (i = x.length ∨ i = y.length) → aquiferref05_Compare.l0 (k + 1 + 1) x y (i : Int) = some (cmpN ((x.map (·.data.toList)).drop i) ((y.map (·.data.toList)).drop i)) := by
    intro i k h1 h2 h3
    unfold aquiferref05_Compare.l0
    by_cases h4 : (i : Int) < (x.length : Int)
    · rw [if_pos h4, decide_eq_false (by omega)]
      exact hend i k h1 h2 h3
    · rw [if_neg h4]
      exact hend i k h1 h2 h3
  induction d with
  | zero =>
    intro i k h h1 h2 hk
    obtain ⟨k, rfl⟩ : ∃ q, k = q + 1 + 1 := ⟨k - 2, by omega⟩
    exact hstop i k h1 h2 (by omega)
  | succ d ih =>
    intro i k h h1 h2 hk
    obtain ⟨k, rfl⟩ : ∃ q, k = q + 1 + 1 := ⟨k - 2, by omega⟩
    by_cases h3 : i = x.length ∨ i = y.length
    · exact hstop i k h1 h2 h3
    · have hix : i < x.length := by omega
      have hiy : i < y.length := by omega
      have ih' := ih (i + 1) k (by omega) (by omega) (by omega) (by omega)
      have rx : rdOf ByteArray.empty x (i : Int) = x[i] := by unfold rdOf; simp [hix]
      have ry : rdOf ByteArray.empty y (i : Int) = y[i] := by unfold rdOf; simp [hiy]
      unfold aquiferref05_Compare.l0
      rw [if_pos (by omega), decide_eq_true (by omega)]
      unfold aquiferref05_Compare.j1
      rw [if_pos rfl, if_pos (by omega), if_pos (by omega), if_pos (by omega), rx, ry, wr i (by omega), ih']
      rw [List.drop_eq_getElem_cons (show i < (x.map (·.data.toList)).length by rw [List.length_map]; exact hix), List.drop_eq_getElem_cons (show i < (y.map (·.data.toList)).length by rw [List.length_map]; exact hiy)]
      simp only [cmpN, lexC, List.getElem_map]
      rw [cmp_less, ← Lib.toList_data, ← Lib.toList_data]
      by_cases h4 : Op.bytesLess x[i].toList y[i].toList = true
      · rw [if_pos h4, if_pos h4, if_neg (by decide)]
      · rw [if_neg h4, if_neg h4]
        by_cases h5 : Op.bytesLess y[i].toList x[i].toList = true
        · rw [if_pos h5, if_pos h5, if_neg (by decide)]
        · rw [if_neg h5, if_neg h5, if_pos rfl]
theorem refcompare (a b : ByteArray) (ha : a.size ≤ 65536) (hb : b.size ≤ 65536) (k : Nat) (hk : 2 * a.size + 4 ≤ k) (hk2 : b.size < k) : aquiferref05_Compare.f k a b = some (pcmp a b) := by
  obtain ⟨M, h1, h2⟩ := refnames a ha k (by omega)
  obtain ⟨N, h3, h4⟩ := refnames b hb k hk2
  have hm := map_data_len h2
  have hl := names_len a.data.toList
  have hsz : a.data.toList.length = a.size := rfl
  unfold aquiferref05_Compare.f
  rw [h1, Option.bind_some, h3, Option.bind_some]
  have := cmp_loop M N (by omega) M.length 0 k (by omega) (by omega) (by omega) (by omega)
  unfold pcmp
  rw [← h2, ← h4]
  simpa using this
theorem btl_at (s : ByteArray) (i : Nat) (h : i < s.data.toList.length) : bt s (i : Int) = ((s.data.toList[i]).toNat : Int) := by
  have h' : i < s.size := h
  unfold bt
  simp [h']
  rfl
theorem sign_fn (c : UInt8) : aquiferref05_sign.f (c.toNat : Int) = some (signB c) := by
  unfold aquiferref05_sign.f signB
  have e1 : ∀ m : UInt8, (decide (m ≤ c)) = decide ((m.toNat : Int) ≤ (c.toNat : Int)) := fun m => by rw [decide_eq_decide, UInt8.le_iff_toNat_le]; omega
  have e2 : ∀ m : UInt8, (decide (c ≤ m)) = decide ((c.toNat : Int) ≤ (m.toNat : Int)) := fun m => by rw [decide_eq_decide, UInt8.le_iff_toNat_le]; omega
  have e3 : ∀ m : UInt8, (c == m) = decide ((c.toNat : Int) = (m.toNat : Int)) := fun m => by
    rw [Bool.eq_iff_iff, beq_iff_eq, decide_eq_true_eq]
    exact ⟨fun h => by rw [h], fun h => UInt8.toNat.inj (by omega)⟩
  have e4 : ((c.toNat : Int) == 126) = decide ((c.toNat : Int) = 126) := by rw [Bool.eq_iff_iff, beq_iff_eq, decide_eq_true_eq]
  rw [e1, e2, e1, e2, e3, e3, e3, e4]
  show _ = some ((decide ((97 : Int) ≤ (c.toNat : Int)) && decide ((c.toNat : Int) ≤ 122)) || ((decide ((48 : Int) ≤ (c.toNat : Int)) && decide ((c.toNat : Int) ≤ 57)) || (decide ((c.toNat : Int) = 95) || (decide ((c.toNat : Int) = 45) || decide ((c.toNat : Int) = 126)))))
  generalize (c.toNat : Int) = z
  by_cases h1 : z ≥ 97 <;> by_cases h2 : z ≤ 122 <;> by_cases h3 : z ≥ 48 <;> by_cases h4 : z ≤ 57 <;> by_cases h5 : z = 95 <;> by_cases h6 : z = 45 <;> simp [h1, h2, h3, h4, h5, h6, ge_iff_le] <;> omega
/-- The points of a name, byte by byte. -/
def nm : Bool → Nat → List UInt8 → Option Nat
  | _, p, [] => some p
  | first, p, c :: l => if c = 46 then (if first = true ∨ l = [] then none else nm false (p + 1) l) else if signB c = true then nm false p l else none
def nmEnd (len : Nat) : Option Nat → Int
  | none => 0
  | some p => if len = 0 then 0 else if 24 < len then 0 else if 1 < p then 0 else 1 + (p : Int)
theorem name_loop (s : ByteArray) (hs : s.size ≤ 65536) (d : Nat) : ∀ (i k p : Nat), i + d = s.data.toList.length → d < k → p ≤ i → aquiferref05_name.l0 k s (p : Int) (i : Int) = some (nmEnd s.size (nm (i == 0) p (s.data.toList.drop i))) := by
  have hsz : s.data.toList.length = s.size := rfl
  induction d with
  | zero =>
    intro i k p h hk hp
    obtain ⟨k, rfl⟩ : ∃ q, k = q + 1 := ⟨k - 1, by omega⟩
    unfold aquiferref05_name.l0
    rw [if_neg (by omega), List.drop_of_length_le (by omega)]
    simp only [nm, nmEnd]
    by_cases h0 : s.size = 0
    · rw [if_pos (by omega), if_pos h0]
    · rw [if_neg (by omega), if_neg h0]
      by_cases h1 : 24 < s.size
      · rw [if_pos (by omega), if_pos h1]
      · rw [if_neg (by omega), if_neg h1]
        by_cases h2 : 1 < p
        · rw [if_pos (by omega), if_pos h2]
        · rw [if_neg (by omega), if_neg h2]
          congr 1
          unfold wrap64
          omega
  | succ d ih =>
    intro i k p h hk hp
    obtain ⟨k, rfl⟩ : ∃ q, k = q + 1 := ⟨k - 1, by omega⟩
    have hi : i < s.data.toList.length := by omega
    unfold aquiferref05_name.l0
    rw [if_pos (by omega), if_pos (by omega), btl_at s i hi, wr1 i (by omega), sign_fn, Option.bind_some, List.drop_eq_getElem_cons hi]
    have hw : wrap64 ((s.size : Int) - 1) = (s.size : Int) - 1 := by unfold wrap64; omega
    have hwp : wrap64 ((p : Int) + 1) = ((p + 1 : Nat) : Int) := wr1 p (by omega)
    rw [hw, hwp]
    have hz : (((i + 1 : Nat)) == 0) = false := rfl
    have i1 := ih (i + 1) k (p + 1) (by omega) (by omega) (by omega)
    have i2 := ih (i + 1) k p (by omega) (by omega) (by omega)
    rw [hz] at i1 i2
    simp only [nm]
    by_cases hc : s.data.toList[i] = 46
    · have hc' : ((s.data.toList[i]).toNat : Int) = 46 := by rw [hc]; rfl
      rw [if_pos hc', if_pos hc]
      by_cases h0 : i = 0
      · subst h0
        rw [if_pos (by omega), if_pos (.inl rfl)]
        rfl
      · rw [if_neg (by omega)]
        by_cases hl : i + 1 = s.data.toList.length
        · rw [if_pos (by omega), if_pos (.inr (List.drop_of_length_le (by omega)))]
          rfl
        · have hne : s.data.toList.drop (i + 1) ≠ [] := fun e => by
            have := congrArg List.length e
            rw [List.length_drop, List.length_nil] at this
            omega
          rw [if_neg (by omega), if_neg (by simp [h0, hne]), i1]
    · have hc' : ¬ ((s.data.toList[i]).toNat : Int) = 46 := fun e => hc (UInt8.toNat.inj (by have : (46 : UInt8).toNat = 46 := rfl; omega))
      rw [if_neg hc', if_neg hc]
      cases hsg : signB s.data.toList[i] with
      | true => rw [if_pos rfl, if_pos rfl, i2]
      | false => rw [if_neg (by decide), if_neg (by decide)]; rfl
theorem not_sign_46 : signB 46 = false := rfl
theorem nm_more (l : List UInt8) : ∀ p, (l.all signB = true → nm false p l = some p) ∧ (l.all signB = false → nm false p l = none ∨ ∃ q, p < q ∧ nm false p l = some q) := by
  induction l with
  | nil => intro p; exact ⟨fun _ => rfl, fun h => by simp at h⟩
  | cons c l ih =>
    intro p
    simp only [List.all_cons, nm]
    by_cases hc : c = 46
    · subst hc
      rw [if_pos rfl, not_sign_46]
      refine ⟨fun h => by simp at h, fun _ => ?_⟩
      by_cases hl : l = []
      · rw [if_pos (.inr hl)]; exact .inl rfl
      · rw [if_neg (by simp [hl])]
        cases ha : l.all signB with
        | true => exact .inr ⟨p + 1, by omega, (ih (p + 1)).1 ha⟩
        | false =>
          rcases (ih (p + 1)).2 ha with h | ⟨q, hq, h⟩
          · exact .inl h
          · exact .inr ⟨q, by omega, h⟩
    · rw [if_neg hc]
      cases hs : signB c with
      | true => rw [if_pos rfl, Bool.true_and]; exact ih p
      | false => rw [if_neg (by decide)]; exact ⟨fun h => by simp at h, fun _ => .inl rfl⟩
theorem nm_free (l : List UInt8) (h : 46 ∉ l) : ∀ f p, nm f p l = if l.all signB = true then some p else none := by
  induction l with
  | nil => intro f p; rfl
  | cons c l ih =>
    intro f p
    simp only [List.all_cons, nm]
    rw [if_neg (fun e => h (by rw [e]; exact List.mem_cons_self)), ih (fun hm => h (List.mem_cons_of_mem _ hm))]
    rcases Bool.eq_false_or_eq_true (signB c) with hs | hs <;> simp [hs]
theorem nm_point (a b : List UInt8) (h : 46 ∉ a) : ∀ f p, nm f p (a ++ 46 :: b) = if a.all signB = true ∧ (f = true → a ≠ []) ∧ b ≠ [] then nm false (p + 1) b else none := by
  induction a with
  | nil =>
    intro f p
    simp only [List.nil_append, nm, if_pos]
    by_cases hf : f = true
    · subst hf
      rw [if_pos (.inl rfl), if_neg (fun h => h.2.1 rfl rfl)]
    · by_cases hb : b = []
      · rw [if_pos (.inr hb), if_neg (fun h => h.2.2 hb)]
      · rw [if_neg (by simp [hf, hb]), if_pos ⟨rfl, fun e => absurd e hf, hb⟩]
  | cons c a ih =>
    intro f p
    rw [List.cons_append]
    simp only [List.all_cons, nm]
    rw [if_neg (fun e => h (by rw [e]; exact List.mem_cons_self)), ih (fun hm => h (List.mem_cons_of_mem _ hm))]
    rcases Bool.eq_false_or_eq_true (signB c) with hs | hs <;> simp [hs]
theorem split_first (c : UInt8) (l : List UInt8) (h : c ∈ l) : ∃ a b, l = a ++ c :: b ∧ c ∉ a := by
  induction l with
  | nil => simp at h
  | cons x l ih =>
    by_cases hx : x = c
    · exact ⟨[], l, by rw [hx]; rfl, by simp⟩
    · obtain ⟨a, b, h1, h2⟩ := ih ((List.mem_cons.1 h).resolve_left (fun e => hx e.symm))
      exact ⟨x :: a, b, by rw [h1, List.cons_append], by simp [h2, Ne.symm hx]⟩
theorem index_first (c : UInt8) (a b : List UInt8) (h : c ∉ a) : index (a ++ c :: b) [c] = (a.length : Int) := by
  induction a with
  | nil => rw [List.nil_append, index_cons_eq]; rfl
  | cons x a ih =>
    have hx : x ≠ c := fun e => h (by rw [e]; exact List.mem_cons_self)
    rw [List.cons_append, index_cons_ne _ x c hx, ih (fun hm => h (List.mem_cons_of_mem _ hm)), if_neg (by simp), List.length_cons]
    omega
theorem index_free (c : UInt8) (a : List UInt8) (h : c ∉ a) : index a [c] = -1 := by
  induction a with
  | nil => rfl
  | cons x a ih =>
    have hx : x ≠ c := fun e => h (by rw [e]; exact List.mem_cons_self)
    rw [index_cons_ne _ x c hx, ih (fun hm => h (List.mem_cons_of_mem _ hm))]
    rfl
theorem kind_nm (l : List UInt8) : nmEnd l.length (nm true 0 l) = kindL l := by
  unfold kindL
  by_cases hm : 46 ∈ l
  · obtain ⟨a, b, rfl, ha⟩ := split_first 46 l hm
    have hc : cut (a ++ 46 :: b) [46] = (a, b, true) := by
      unfold cut
      rw [index_first 46 a b ha, if_pos (by omega)]
      simp
    rw [hc, nm_point a b ha]
    dsimp only
    by_cases h24 : 24 < (a ++ 46 :: b).length
    · rw [if_pos h24]
      split
      · cases nm false (0 + 1) b with
        | none => rfl
        | some p => unfold nmEnd; dsimp only; rw [if_neg (by omega), if_pos h24]
      · rfl
    · rw [if_neg h24]
      have h0 : (a ++ 46 :: b).length ≠ 0 := by simp
      by_cases hpa : plainL a = true
      · have hpa' := hpa
        unfold plainL at hpa'
        simp only [Bool.and_eq_true, Bool.not_eq_true', List.isEmpty_eq_false_iff] at hpa'
        have hR : (if plainL a = false then (0 : Int) else if true = false then 1 else if plainL b = true then 2 else 0) = if plainL b = true then 2 else 0 := by rw [if_neg (by rw [hpa]; decide), if_neg (by decide)]
        rw [hR]
        by_cases hb : b = []
        · subst hb
          rw [if_neg (fun h => h.2.2 rfl)]
          rfl
        · rw [if_pos ⟨hpa'.1, fun _ => hpa'.2, hb⟩]
          have hbe : b.isEmpty = false := List.isEmpty_eq_false_iff.2 hb
          cases hab : b.all signB with
          | true =>
            rw [(nm_more b (0 + 1)).1 hab, if_pos (by unfold plainL; rw [hab, hbe]; rfl)]
            unfold nmEnd
            dsimp only
            rw [if_neg h0, if_neg h24, if_neg (by omega)]
            rfl
          | false =>
            rw [if_neg (by unfold plainL; rw [hab]; simp)]
            rcases (nm_more b (0 + 1)).2 hab with h | ⟨q, hq, h⟩
            · rw [h]; rfl
            · rw [h]
              unfold nmEnd
              dsimp only
              rw [if_neg h0, if_neg h24, if_pos (by omega)]
      · have hpf : plainL a = false := Bool.eq_false_iff.2 hpa
        have hR : (if plainL a = false then (0 : Int) else if true = false then 1 else if plainL b = true then 2 else 0) = 0 := if_pos hpf
        rw [hR, if_neg]
        · rfl
        · intro h
          apply hpa
          unfold plainL
          rw [h.1, List.isEmpty_eq_false_iff.2 (h.2.1 rfl)]
          rfl
  · have hc : cut l [46] = (l, [], false) := by
      unfold cut
      rw [index_free 46 l hm, if_neg (by decide)]
    rw [hc, nm_free l hm]
    dsimp only
    by_cases h24 : 24 < l.length
    · rw [if_pos h24]
      split
      · unfold nmEnd; dsimp only; rw [if_neg (by omega), if_pos h24]
      · rfl
    · rw [if_neg h24]
      by_cases h0 : l = []
      · subst h0; rfl
      · have hl : l.length ≠ 0 := fun e => h0 (List.eq_nil_of_length_eq_zero e)
        have he : l.isEmpty = false := List.isEmpty_eq_false_iff.2 h0
        unfold plainL
        rw [he]
        cases ha : l.all signB with
        | true =>
          rw [if_pos rfl, if_neg (by decide), if_pos rfl]
          unfold nmEnd
          dsimp only
          rw [if_neg hl, if_neg h24, if_neg (by omega)]
          rfl
        | false => rw [if_neg (by decide), if_pos rfl]; rfl
theorem refname (s : ByteArray) (hs : s.size ≤ 65536) (k : Nat) (hk : s.size < k) : aquiferref05_name.f k s = some (kindL s.data.toList) := by
  have h := name_loop s hs s.data.toList.length 0 k 0 (by omega) (by have : s.data.toList.length = s.size := rfl; omega) (Nat.le_refl _)
  rw [List.drop_zero] at h
  unfold aquiferref05_name.f
  rw [← kind_nm]
  exact h
theorem kindsL_cons (n : List UInt8) (l : List (List UInt8)) (k : Int) : kindsL (n :: l) k = if kindL n = 0 then none else if kindL n = 2 ∧ l ≠ [] then none else kindsL l (kindL n) := rfl
theorem kindsL_last (l : List (List UInt8)) : ∀ k r, kindsL l k = some r → r = match l.getLast? with | none => k | some n => kindL n := by
  induction l with
  | nil => intro k r h; simp [kindsL] at h; simp [h]
  | cons n l ih =>
    intro k r h
    unfold kindsL at h
    split at h
    · cases h
    · split at h
      · cases h
      · have := ih _ _ h
        rw [this]
        cases l with
        | nil => rfl
        | cons m l => rw [List.getLast?_cons_cons]; cases hg : (m :: l).getLast? with
          | none => simp at hg
          | some x => rfl
theorem kind_loop (p : ByteArray) (hp : p.size ≤ 65536) (M : List ByteArray) (hM : M.map (·.data.toList) = names p.data.toList) (d : Nat) : ∀ (i k : Nat) (last : Int), i + d = M.length → p.size + d + 1 < k → (i = 0 ∨ ∃ h : i - 1 < M.length, last = kindL M[i - 1].data.toList) → kindsL ((M.drop i).map (·.data.toList)) last = kindsL (names p.data.toList) 0 → aquiferref05_Kind.l0 k M (i : Int) = some (match kindsL (names p.data.toList) 0 with
    | none => (0, 18)
    | some r => if 8 < (names p.data.toList).length then (0, 7) else (r, 0)) := by
  have hne := names_ne p.data.toList
  have hml : M.length = (names p.data.toList).length := by rw [← hM, List.length_map]
  have hpos : 0 < M.length := by rw [hml]; exact List.length_pos_iff.2 hne
  have hnl := names_len p.data.toList
  have hps : p.data.toList.length = p.size := rfl
  have hsz : ∀ x ∈ M, x.size ≤ p.size := fun x hx => by
    have h1 := names_size p.data.toList x.data.toList (by rw [← hM]; exact List.mem_map_of_mem hx)
    have h3 : x.data.toList.length = x.size := rfl
    omega
  induction d with
  | zero =>
    intro i k last h hk hl hr
    obtain ⟨k, rfl⟩ : ∃ q, k = q + 1 := ⟨k - 1, by omega⟩
    rw [List.drop_of_length_le (by omega)] at hr
    simp only [List.map_nil, kindsL] at hr
    rw [← hr]
    unfold aquiferref05_Kind.l0
    dsimp only
    rw [if_neg (by omega)]
    by_cases h8 : 8 < (names p.data.toList).length
    · rw [if_pos (by omega), if_pos h8]
    · have hw : wrap64 ((M.length : Int) - 1) = ((M.length - 1 : Nat) : Int) := by unfold wrap64; omega
      rw [if_neg (by omega), if_neg h8, hw, if_pos (by omega), if_pos (by omega), rdB M (M.length - 1) (by omega), refname _ (by have := hsz _ (List.getElem_mem (show M.length - 1 < M.length by omega)); omega) k (by have := hsz _ (List.getElem_mem (show M.length - 1 < M.length by omega)); omega), Option.bind_some]
      rcases hl with hl | ⟨hi, hl⟩
      · omega
      · have : i = M.length := by omega
        subst this
        rw [hl]
  | succ d ih =>
    intro i k last h hk hl hr
    obtain ⟨k, rfl⟩ : ∃ q, k = q + 1 := ⟨k - 1, by omega⟩
    have hi : i < M.length := by omega
    have hsi := hsz _ (List.getElem_mem hi)
    rw [List.drop_eq_getElem_cons hi, List.map_cons] at hr
    rw [kindsL_cons] at hr
    unfold aquiferref05_Kind.l0
    rw [if_pos (by omega), if_pos (by omega), rdB M i hi, refname _ (by omega) k (by omega), Option.bind_some, wr1 i (by omega), Option.bind_some]
    by_cases h0 : kindL M[i].data.toList = 0
    · rw [if_pos h0] at hr ⊢
      rw [← hr]
    · rw [if_neg h0] at hr ⊢
      by_cases h2 : kindL M[i].data.toList = 2
      · rw [if_pos h2]
        by_cases hlast : i + 1 < M.length
        · rw [if_pos ⟨h2, fun e => by
            have := congrArg List.length e
            rw [List.length_map, List.length_drop, List.length_nil] at this
            omega⟩] at hr
          rw [if_pos (by omega), ← hr]
        · rw [if_neg (fun hh => hh.2 (by rw [List.drop_of_length_le (by omega)]; rfl))] at hr
          rw [if_neg (by omega)]
          exact ih (i + 1) k _ (by omega) (by omega) (.inr ⟨by omega, rfl⟩) hr
      · rw [if_neg (fun hh => h2 hh.1)] at hr
        rw [if_neg h2]
        exact ih (i + 1) k _ (by omega) (by omega) (.inr ⟨by omega, rfl⟩) hr
theorem refkind (p : ByteArray) (hp : p.size ≤ 65536) (k : Nat) (hk : 300 ≤ k) : aquiferref05_Kind.f k p = some (kindS p) := by
  unfold aquiferref05_Kind.f kindS
  by_cases h96 : 96 < p.size
  · rw [if_pos (by omega), if_pos h96]
  · rw [if_neg (by omega), if_neg h96]
    by_cases h0 : p.size = 0
    · rw [if_pos ((size_zero_list p).2 h0), if_pos h0]
    · rw [if_neg (fun e => h0 ((size_zero_list p).1 e)), if_neg h0]
      obtain ⟨M, hf, hM⟩ := refnames p hp k (by omega)
      have hnl := names_len p.data.toList
      have hml : M.length = (names p.data.toList).length := by rw [← hM, List.length_map]
      have hps : p.data.toList.length = p.size := rfl
      rw [hf, Option.bind_some]
      exact kind_loop p hp M hM M.length 0 k 0 (by omega) (by omega) (.inl rfl) (by rw [List.drop_zero, hM])
end Go.Proofs.YtjllbkeobibnkaaDoor.Q

namespace Go.Proofs.YtjllbkeobibnkaaDoor.Q
open Go Go.Proofs Go.Shelf Go.RowKit Go.Lib Go.Sort Go.Proofs.YtjllbkeobibnkaaDoorP Go.Proofs.YtjllbkeobibnkaaDoorK Go.Proofs.YtjllbkeobibnkaaDoorW.PrintWords Go.Proofs.YtjllbkeobibnkaaDoorW.PrintLast Go.Proofs.YtjllbkeobibnkaaDoorW.PrintMore
set_option linter.unusedSimpArgs false
set_option linter.unusedVariables false
/-! ### merge.list -/
def okK (least : Int) (k : S58) : Bool := decide (kindS k.f0 = (2, 0)) && (decide (0 ≤ k.f1.f1) && (decide (k.f1.f1 ≤ 4096) && (decide (least ≤ k.f1.f0) && decide (k.f1.f0 ≤ 1099511627776))))
def listA (least : Int) : Option ByteArray → List S58 → Bool
  | _, [] => true
  | q, k :: l => okK least k && ((match q with | none => true | some y => decide (pcmp y k.f0 < 0)) && listA least (some k.f0) l)
def prevK (l : List S58) : Nat → Option ByteArray
  | 0 => none
  | j + 1 => l[j]?.map (·.f0)
def shortK (l : List S58) : Bool := decide (l.length ≤ 1048576) && l.all fun k => decide (k.f0.size ≤ 65536)
theorem shortK_open {l : List S58} (h : shortK l = true) : l.length ≤ 1048576 ∧ ∀ k ∈ l, k.f0.size ≤ 65536 := by
  unfold shortK at h
  simpa using h
attribute [local go_sem] A51_size A51_0 A51_1 A51_g0 A51_g1 A58_size A58_0 A58_1 A58_2 A58_g0 A58_g1 A58_g2 cell_held frozen_held
attribute [local go_sem] zero51 zero58 zero65
attribute [local go_sem ↓ high] lvx_of
attribute [local go_sem] lv_sc lv24 lv33
attribute [local go_sem ↓ high] lv51 lv51s lv58 lv58a lv65 lv65a lv65l lv65r sc51 sc58 sc65 sc65a sc65l sc65r sc58a
set_option maxRecDepth 100000 in
set_option maxHeartbeats 4000000 in
theorem list_any (w : World) (A : Option Addr) (c : Nat) (l : List S58) (least : Int) (hC : k58.C w A l.length l) (hs : shortK l = true) :
    Calls Tryd.prog 53 #[.slice A l.length c, .int .i64 least] w fun e w' => e = .returned (.bool (listA least none l)) ∧ Below w.heap.size w w' := by
  obtain ⟨hl, hsz⟩ := shortK_open hs
  have HR := Aside0.mk hC
  have HZ := Aside0.mk hsz
  have HB0 := Aside0.mk (Below.refl w.heap.size w)
  obtain ⟨R, hR⟩ : ∃ R, listA least none l = R := ⟨_, rfl⟩
  rw [hR]
  clear hC hs hsz
  go_enter Tryd.func53, Tryd.ntmps53
  go_wp2_with fail
  go_loopw [12] (fun i wr => ∃ j : Nat, j ≤ l.length ∧ i = .int .i64 (j : Int) ∧ Aside0 (listA least (prevK l j) (l.drop j) = R) ∧ Aside0 (Below w.heap.size w wr)) (fun i _ => l.length - (intOf i).toNat)
  case atStart => exact ⟨0, Nat.zero_le _, rfl, ⟨hR⟩, HB0⟩
  case round =>
    obtain ⟨j, hj, rfl, HI, HB⟩ := hrel
    have bw : Bel w.heap.size w wr := ⟨fun _ => HB.out⟩
    have ow : OwnB w.heap.size (.row wr.heap.size) := own_row HB.out.size
    by_cases hlt : j < l.length
    · obtain ⟨ad, e, x0⟩ := C58_at HR.out j hlt
      subst e
      have hd := List.drop_eq_getElem_cons hlt
      have hmem := List.getElem_mem hlt
      have hx := HZ.out _ hmem
      have hnext : prevK l (j + 1) = some l[j].f0 := by show l[j]?.map (·.f0) = _; rw [List.getElem?_eq_getElem hlt]; rfl
      have hI := HI.out
      rw [hd] at hI
      simp only [listA] at hI
      rw [← hnext] at hI
      have HN := Aside0.mk hnext
      have hk := fun W => Kind_any W l[j].f0 hx
      generalize l[j] = x at x0 hI hk hx HN
      replace x0 := At_below x0 HB.out
      have X0 := Aside0.mk x0
      clear hd hmem HI x0 hnext
      cases hok : okK least x with
      | false =>
        rw [hok, Bool.false_and] at hI
        have HI := Aside0.mk hI
        have HK := Aside0.mk hk
        have HX := Aside0.mk hok
        clear hI hk hok hR hx
        go_wp2_with (refine seg_load rfl 58 (.tmp 15) rfl X0.out (A58 x) rfl rfl Tryd.underlying58 rfl (by rw [L58_len]; exact info58s) ?_)
        refine (HK.out _).mono ?_
        rintro e w1 ⟨rfl, hb1⟩
        have p1 := prev_call hb1
        clear hb1
        go_wp2_with fail
        case' _ =>
          have hv : (decide (x.f1.f0 ≤ 1099511627776)) = false := by
            have := HX.out
            unfold okK at this
            rw [decide_eq_true (Prod.ext (by assumption) (by assumption)), decide_eq_true (by assumption : 0 ≤ x.f1.f1), decide_eq_true (by assumption : x.f1.f1 ≤ 4096), decide_eq_true (by assumption : least ≤ x.f1.f0)] at this
            simpa using this
          simp only [hv]
        all_goals
          go_quiet (fail)
          go_wp2_with fail
          go_ret
          exact ⟨by rw [← HI.out]; rfl, bel _ _⟩
      | true =>
        rw [hok, Bool.true_and] at hI
        unfold okK at hok
        simp only [Bool.and_eq_true, decide_eq_true_eq] at hok
        obtain ⟨hk0, k1, k2, k3, k4⟩ := hok
        rw [hk0] at hk
        dsimp only at hk
        have HK := Aside0.mk hk
        clear hk hR hk0
        by_cases h0 : j = 0
        · subst h0
          simp only [prevK, Bool.true_and] at hI
          have HI := Aside0.mk hI
          clear hI hx
          go_wp2_with (refine seg_load rfl 58 (.tmp 15) rfl X0.out (A58 x) rfl rfl Tryd.underlying58 rfl (by rw [L58_len]; exact info58s) ?_)
          refine (HK.out _).mono ?_
          rintro e w1 ⟨rfl, hb1⟩
          have p1 := prev_call hb1
          clear hb1
          go_wp2_with fail
          go_quiet (fail)
          go_wp2_with fail
          go_roundw
          case rel => exact ⟨1, by omega, by go_num, HI, ⟨bel _ _⟩⟩
          case measure => simp [intOf]; omega
        · obtain ⟨i, hi⟩ : ∃ i, j = i + 1 := ⟨j - 1, by omega⟩
          have hil : i < l.length := by omega
          obtain ⟨ad2, e2, y0⟩ := C58_at HR.out i hil
          obtain rfl : ad = ad2 := Option.some.inj e2
          have hy := HZ.out _ (List.getElem_mem hil)
          have hp : prevK l j = some l[i].f0 := by rw [hi]; show l[i]?.map (·.f0) = _; rw [List.getElem?_eq_getElem hil]; rfl
          rw [hp] at hI
          generalize l[i] = y at y0 hI hy
          dsimp only at hI
          have hc := fun W => cmp_any W y.f0 x.f0 (by omega) (by omega)
          have HCP := Aside0.mk hc
          have hw1 : IntKind.i64.wrap ((j : Int) - 1) = (i : Int) := by rw [i64_w]; unfold wrap64; omega
          have Y0 := Aside0.mk (At_below y0 HB.out)
          have hj0 : 0 < (j : Int) := by omega
          have hj1 : decide ((0 : Int) < (j : Int)) = true := decide_eq_true hj0
          have hj2 : 0 < j := by omega
          have hj3 : (0 : Int) ≤ (i : Int) := by omega
          have hj4 : (i : Int) < (l.length : Int) := by omega
          have hj5 : i < l.length := hil
          have HJ := Aside0.mk hi
          clear hc hp y0 e2 hx hy hi h0
          have HII := Aside0.mk hI
          clear hI
          go_wp2_with (refine seg_load rfl 58 (.tmp 15) rfl X0.out (A58 x) rfl rfl Tryd.underlying58 rfl (by rw [L58_len]; exact info58s) ?_)
          refine (HK.out _).mono ?_
          rintro e w1 ⟨rfl, hb1⟩
          have p1 := prev_call hb1
          clear hb1
          have y1 := (At58 (At_below Y0.out (bel wr w1))).1
          rw [add_zero_] at y1
          go_wp2_with fail
          go_still_tail 14, (by kernel_rfl)
          change wpList _ _ _ _ _ w1.drew
          have p2 : Prev w1.drew w1 .none := inferInstance
          generalize w1.drew = w2 at p2 ⊢
          by_cases hc : pcmp y.f0 x.f0 < 0
          · have hI := HII.out
            rw [decide_eq_true hc, Bool.true_and] at hI
            have HI := Aside0.mk hI
            have hge : ¬ (0 ≤ pcmp y.f0 x.f0) := by omega
            clear hc hI
            go_wp2_with fail
            refine (HCP.out _).mono ?_
            rintro e w3 ⟨rfl, q, os, hb⟩
            have p3 : Prev w3 w2 .none := prev_call (hb ▸ grow_below w2 q os)
            clear hb
            go_wp2_with fail
            go_roundw
            case rel => exact ⟨j + 1, by omega, by go_num, HI, ⟨bel _ _⟩⟩
            case measure => simp [intOf]; omega
          · have hI := HII.out
            rw [decide_eq_false hc, Bool.false_and] at hI
            have HI := Aside0.mk hI
            have hge : (0 ≤ pcmp y.f0 x.f0) := by omega
            clear hc hI
            go_wp2_with fail
            refine (HCP.out _).mono ?_
            rintro e w3 ⟨rfl, q, os, hb⟩
            have p3 : Prev w3 w2 .none := prev_call (hb ▸ grow_below w2 q os)
            clear hb
            go_wp2_with fail
            go_ret
            exact ⟨by rw [← HI.out]; rfl, bel _ _⟩
    · have hI := HI.out
      rw [List.drop_of_length_le (by omega)] at hI
      have HI' := Aside0.mk hI
      clear hI HI
      go_wp2_with fail
      go_ret
      exact ⟨by rw [← HI'.out]; rfl, HB.out⟩
end Go.Proofs.YtjllbkeobibnkaaDoor.Q

namespace Go.Proofs.YtjllbkeobibnkaaDoor.Q
open Go Go.Proofs Go.Shelf Go.RowKit Go.Lib Go.Sort Go.Proofs.YtjllbkeobibnkaaDoorP Go.Proofs.YtjllbkeobibnkaaDoorK Go.Proofs.YtjllbkeobibnkaaDoorW.PrintWords Go.Proofs.YtjllbkeobibnkaaDoorW.PrintLast Go.Proofs.YtjllbkeobibnkaaDoorW.PrintMore
set_option linter.unusedSimpArgs false
set_option linter.unusedVariables false
/-! ### archive.Merge -/
def mergeA (a : ByteArray) (r : List ByteArray → List ByteArray) : List ByteArray → List ByteArray
  | [] => a :: r []
  | b :: y => if pcmp a b < 0 then a :: r (b :: y) else if 0 < pcmp a b then b :: mergeA a r y else a :: r y
def mergeL : List ByteArray → List ByteArray → List ByteArray
  | [], y => y
  | a :: x, y => mergeA a (mergeL x) y
theorem mergeL_nil (y : List ByteArray) : mergeL [] y = y := rfl
theorem mergeL_end (a : ByteArray) (x : List ByteArray) : mergeL (a :: x) [] = a :: mergeL x [] := rfl
theorem mergeL_cons (a b : ByteArray) (x y : List ByteArray) : mergeL (a :: x) (b :: y) = if pcmp a b < 0 then a :: mergeL x (b :: y) else if 0 < pcmp a b then b :: mergeL (a :: x) y else a :: mergeL x y := rfl
theorem mergeL_len (x : List ByteArray) : ∀ y, (mergeL x y).length ≤ x.length + y.length := by
  induction x with
  | nil => intro y; rw [mergeL_nil]; simp
  | cons a x ih =>
    intro y
    induction y with
    | nil => rw [mergeL_end]; have := ih []; simp at this ⊢; omega
    | cons b y ih2 =>
      rw [mergeL_cons]
      split
      · have := ih (b :: y); simp at this ⊢; omega
      · split
        · simp at ih2 ⊢; omega
        · have := ih y; simp at this ⊢; omega
def pathsK (l : List S58) : List ByteArray := l.map (·.f0)
def lenV : Value → Nat
  | .slice _ n _ => n
  | _ => 0
attribute [local go_sem] A51_size A51_0 A51_1 A51_g0 A51_g1 A58_size A58_0 A58_1 A58_2 A58_g0 A58_g1 A58_g2 cell_held frozen_held
attribute [local go_sem] zero51 zero58 zero65
attribute [local go_sem ↓ high] lvx_of
attribute [local go_sem] lv_sc lv24 lv33
attribute [local go_sem ↓ high] lv51 lv51s lv58 lv58a lv65 lv65a lv65l lv65r sc51 sc58 sc65 sc65a sc65l sc65r sc58a
set_option maxRecDepth 100000 in
set_option maxHeartbeats 4000000 in
theorem merge_any (w : World) (A : Option Addr) (c : Nat) (x : List S58) (B : Option Addr) (d : Nat) (y : List S58) (hC : k58.C w A x.length x) (hx : shortK x = true) (hxc : x.length ≤ c) (hD : k58.C w B y.length y) (hy : shortK y = true) (hyd : y.length ≤ d) :
    Calls Tryd.prog 69 #[.slice A x.length c, .slice B y.length d] w fun e w' => ∃ v, e = .returned v ∧ Kd.string.R 9 w' w.heap.size (fun _ => True) v (mergeL (pathsK x) (pathsK y)) ∧ Below w.heap.size w w' := by
  have hx1 := (shortK_open hx).1
  have hy1 := (shortK_open hy).1
  have HX := Aside0.mk hC
  have HY := Aside0.mk hD
  have HSX := Aside0.mk (shortK_open hx).2
  have HSY := Aside0.mk (shortK_open hy).2
  obtain ⟨R, hR⟩ : ∃ R, mergeL (pathsK x) (pathsK y) = R := ⟨_, rfl⟩
  rw [hR]
  have HR := Aside0.mk hR
  clear hC hD hx hy hR
  go_enter Tryd.func69, Tryd.ntmps69
  go_wp2_with fail
  go_loopw [0, 1, 5] (fun u v o wr => ∃ (A' : Option Addr) (c' : Nat) (xs : List S58) (B' : Option Addr) (d' : Nat) (ys : List S58) (out : List ByteArray), u = .slice A' xs.length c' ∧ v = .slice B' ys.length d' ∧ xs.length ≤ c' ∧ ys.length ≤ d' ∧ Aside0 (k58.C w A' xs.length xs) ∧ Aside0 (k58.C w B' ys.length ys) ∧ Aside0 (∀ k ∈ xs, k.f0.size ≤ 65536) ∧ Aside0 (∀ k ∈ ys, k.f0.size ≤ 65536) ∧ Aside0 (out ++ mergeL (pathsK xs) (pathsK ys) = R) ∧ out.length + xs.length + ys.length ≤ 2097152 ∧ Aside0 (Kd.string.R 9 wr w.heap.size (fun _ => True) o out) ∧ Aside0 (Below w.heap.size w wr)) (fun u v _ _ => lenV u + lenV v)
  case atStart => exact ⟨A, c, x, B, d, y, [], rfl, rfl, hxc, hyd, HX, HY, HSX, HSY, HR, by simp; omega, ⟨Kd.R_nil _ _ _ _ _⟩, ⟨bel _ _⟩⟩
  case round =>
    obtain ⟨A', c', xs, B', d', ys, out, rfl, rfl, hc', hd', HX', HY', HZX, HZY, HI, hlen, HO, HB⟩ := hrel
    have bw : Bel w.heap.size w wr := ⟨fun _ => HB.out⟩
    clear HX HY HSX HSY HR
    obtain ⟨Ao, co, ho⟩ := Kd.R_slice HO.out
    subst ho
    cases xs with
    | nil => cases ys with
      | nil =>
        have hI := HI.out
        simp only [pathsK, List.map_nil, mergeL_nil, List.append_nil] at hI
        subst hI
        go_wp2_with fail
        go_ret
        exact ⟨_, rfl, HO.out, bel _ _⟩
      | cons b ys =>
        have HXC := HX'
        clear HX'
        obtain ⟨ad, ey, y0⟩ := C58_at HY'.out 0 (by simp)
        subst ey
        simp only [List.getElem_cons_zero] at y0
        have yq := At_below y0 HB.out
        rw [Nat.zero_mul, add_zero_] at yq
        have YQ := Aside0.mk yq
        have y1 := (At58 yq).1
        rw [add_zero_] at y1
        have hyd := Kd.C_drop HY'.out (m := 1) (by simp) hd'
        simp only [List.drop_succ_cons, List.drop_zero] at hyd
        have HYD := Aside0.mk hyd
        have hI := HI.out
        simp only [pathsK, List.map_nil, List.map_cons, mergeL_nil] at hI
        rw [← List.singleton_append, ← List.append_assoc] at hI
        have HIN : Aside0 ((out ++ [b.f0]) ++ mergeL (pathsK []) (pathsK ys) = R) := ⟨hI⟩
        have HZYD : Aside0 (∀ k ∈ ys, k.f0.size ≤ 65536) := ⟨fun k hk => HZY.out k (List.mem_cons_of_mem _ hk)⟩
        simp only [List.length_cons] at hlen hd' ⊢
        clear y0 yq hyd hI HI
        go_wp2_with ((with_reducible refine gate_builtin (b := .append) (xs := #[.tmp 43, .tmp 48]) rfl ?_); at_builtin; refine app41 (w0 := w) w.heap.size rfl (.tmp 43) (.tmp 48) rfl (.slice Ao out.length co) out b.f0 rfl ?aX ?aO ?aB ?aS ?aL ?_; (case aX => first | rfl | (simp only [World.size_setCell, size_setRow, World.size_alloc]; rfl)); (case aO => exact rowB HO.out (bel wr _)); (case aB => exact (inferInstance : Bel w.heap.size w _).out (by first | exact Nat.le_refl _ | omega)); (case aS => first | exact siz w _ | (have := siz w _; omega)); (case aL => omega); intro v6 w6 h6 hb6 hg6 hat6; have p6 := prev_above hb6; have HB6 := Aside0.mk hb6; have HV6 := Aside0.mk h6; clear hb6 h6 hg6 hat6)
        go_roundw
        case rel => exact ⟨_, _, [], _, _, ys, _, rfl, rfl, by simp only [List.length_cons, List.length_nil] at *; omega, by simp only [List.length_cons, List.length_nil] at *; omega, HXC, HYD, HZX, HZYD, HIN, by simp only [List.length_append, List.length_cons, List.length_nil] at *; omega, HV6, HB6⟩
        case measure => simp only [lenV, List.length_cons, List.length_nil]; omega
    | cons a xs => cases ys with
      | nil =>
        have HYC := HY'
        clear HY'
        obtain ⟨ae, ex, x0⟩ := C58_at HX'.out 0 (by simp)
        subst ex
        simp only [List.getElem_cons_zero] at x0
        have xq := At_below x0 HB.out
        rw [Nat.zero_mul, add_zero_] at xq
        have XQ := Aside0.mk xq
        have x1 := (At58 xq).1
        rw [add_zero_] at x1
        have hxd := Kd.C_drop HX'.out (m := 1) (by simp) hc'
        simp only [List.drop_succ_cons, List.drop_zero] at hxd
        have HXD := Aside0.mk hxd
        have hI := HI.out
        simp only [pathsK, List.map_nil, List.map_cons, mergeL_end] at hI
        rw [← List.singleton_append, ← List.append_assoc] at hI
        have HIN : Aside0 ((out ++ [a.f0]) ++ mergeL (pathsK xs) (pathsK []) = R) := ⟨hI⟩
        have HZXD : Aside0 (∀ k ∈ xs, k.f0.size ≤ 65536) := ⟨fun k hk => HZX.out k (List.mem_cons_of_mem _ hk)⟩
        simp only [List.length_cons] at hlen hc' ⊢
        clear x0 xq hxd hI HI
        go_wp2_with ((with_reducible refine gate_builtin (b := .append) (xs := #[.tmp 34, .tmp 39]) rfl ?_); at_builtin; refine app41 (w0 := w) w.heap.size rfl (.tmp 34) (.tmp 39) rfl (.slice Ao out.length co) out a.f0 rfl ?aX ?aO ?aB ?aS ?aL ?_; (case aX => first | rfl | (simp only [World.size_setCell, size_setRow, World.size_alloc]; rfl)); (case aO => exact rowB HO.out (bel wr _)); (case aB => exact (inferInstance : Bel w.heap.size w _).out (by first | exact Nat.le_refl _ | omega)); (case aS => first | exact siz w _ | (have := siz w _; omega)); (case aL => omega); intro v6 w6 h6 hb6 hg6 hat6; have p6 := prev_above hb6; have HB6 := Aside0.mk hb6; have HV6 := Aside0.mk h6; clear hb6 h6 hg6 hat6)
        go_roundw
        case rel => exact ⟨_, _, xs, _, _, [], _, rfl, rfl, by simp only [List.length_cons, List.length_nil] at *; omega, by simp only [List.length_cons, List.length_nil] at *; omega, HXD, HYC, HZXD, HZY, HIN, by simp only [List.length_append, List.length_cons, List.length_nil] at *; omega, HV6, HB6⟩
        case measure => simp only [lenV, List.length_cons, List.length_nil]; omega
      | cons b ys =>
        obtain ⟨ae, ex, x0⟩ := C58_at HX'.out 0 (by simp)
        subst ex
        simp only [List.getElem_cons_zero] at x0
        have xq := At_below x0 HB.out
        rw [Nat.zero_mul, add_zero_] at xq
        have XQ := Aside0.mk xq
        have x1 := (At58 xq).1
        rw [add_zero_] at x1
        obtain ⟨ad, ey, y0⟩ := C58_at HY'.out 0 (by simp)
        subst ey
        simp only [List.getElem_cons_zero] at y0
        have yq := At_below y0 HB.out
        rw [Nat.zero_mul, add_zero_] at yq
        have YQ := Aside0.mk yq
        have y1 := (At58 yq).1
        rw [add_zero_] at y1
        have hxd := Kd.C_drop HX'.out (m := 1) (by simp) hc'
        simp only [List.drop_succ_cons, List.drop_zero] at hxd
        have HXD := Aside0.mk hxd
        have hyd := Kd.C_drop HY'.out (m := 1) (by simp) hd'
        simp only [List.drop_succ_cons, List.drop_zero] at hyd
        have HYD := Aside0.mk hyd
        have HZXD : Aside0 (∀ k ∈ xs, k.f0.size ≤ 65536) := ⟨fun k hk => HZX.out k (List.mem_cons_of_mem _ hk)⟩
        have HZYD : Aside0 (∀ k ∈ ys, k.f0.size ≤ 65536) := ⟨fun k hk => HZY.out k (List.mem_cons_of_mem _ hk)⟩
        have HXC := HX'
        have HYC := HY'
        have sa := HZX.out a List.mem_cons_self
        have sb := HZY.out b List.mem_cons_self
        have hcmp := fun W => cmp_any W a.f0 b.f0 (by omega) (by omega)
        have HCP := Aside0.mk hcmp
        have hI := HI.out
        simp only [pathsK, List.map_cons, mergeL_cons] at hI
        have HII := Aside0.mk hI
        simp only [List.length_cons] at hlen hc' hd' ⊢
        clear x0 xq y0 yq hxd hyd hI HI sa sb hcmp HX' HY'
        obtain ⟨c0, hc0⟩ : ∃ c0, pcmp a.f0 b.f0 = c0 := ⟨_, rfl⟩
        simp only [hc0] at HCP HII
        clear hc0
        rcases (show c0 < 0 ∨ 0 < c0 ∨ c0 = 0 by omega) with h0 | h0 | h0
        · have hI := HII.out
          rw [if_pos h0, ← List.singleton_append, ← List.append_assoc] at hI
          have HIN : Aside0 ((out ++ [a.f0]) ++ mergeL (pathsK xs) (pathsK (b :: ys)) = R) := ⟨hI⟩
          have g1 : c0 ≤ 0 := by omega
          have g2 : ¬ 0 ≤ c0 := by omega
          clear hI HII h0
          go_wp2_with fail
          go_still_tail 8, (by kernel_rfl)
          change wpList _ _ _ _ _ wr.drew
          have p2 : Prev wr.drew wr .none := inferInstance
          generalize wr.drew = w2 at p2 ⊢
          go_wp2_with fail
          refine (HCP.out _).mono ?_
          rintro e w3 ⟨rfl, q, os, hb⟩
          have p3 : Prev w3 w2 .none := prev_call (hb ▸ grow_below w2 q os)
          have x3 := (At58 (At_below XQ.out (bel wr w3))).1
          have y3 := (At58 (At_below YQ.out (bel wr w3))).1
          rw [add_zero_] at x3 y3
          clear hb
          go_wp2_with ((with_reducible refine gate_builtin (b := .append) (xs := #[.tmp 34, .tmp 39]) rfl ?_); at_builtin; refine app41 (w0 := w) w.heap.size rfl (.tmp 34) (.tmp 39) rfl (.slice Ao out.length co) out a.f0 rfl ?aX ?aO ?aB ?aS ?aL ?_; (case aX => first | rfl | (simp only [World.size_setCell, size_setRow, World.size_alloc]; rfl)); (case aO => exact rowB HO.out (bel wr _)); (case aB => exact (inferInstance : Bel w.heap.size w _).out (by first | exact Nat.le_refl _ | omega)); (case aS => first | exact siz w _ | (have := siz w _; omega)); (case aL => omega); intro v6 w6 h6 hb6 hg6 hat6; have p6 := prev_above hb6; have HB6 := Aside0.mk hb6; have HV6 := Aside0.mk h6; clear hb6 h6 hg6 hat6)
          go_roundw
          case rel => exact ⟨_, _, xs, _, _, (b :: ys), _, rfl, rfl, by simp only [List.length_cons, List.length_nil] at *; omega, by simp only [List.length_cons, List.length_nil] at *; omega, HXD, HYC, HZXD, HZY, HIN, by simp only [List.length_append, List.length_cons, List.length_nil] at *; omega, HV6, HB6⟩
          case measure => simp only [lenV, List.length_cons, List.length_nil]; omega
        · have hI := HII.out
          rw [if_neg (by omega), if_pos h0, ← List.singleton_append, ← List.append_assoc] at hI
          have HIN : Aside0 ((out ++ [b.f0]) ++ mergeL (pathsK (a :: xs)) (pathsK ys) = R) := ⟨hI⟩
          have g1 : ¬ c0 ≤ 0 := by omega
          have g2 : 0 ≤ c0 := by omega
          clear hI HII h0
          go_wp2_with fail
          go_still_tail 8, (by kernel_rfl)
          change wpList _ _ _ _ _ wr.drew
          have p2 : Prev wr.drew wr .none := inferInstance
          generalize wr.drew = w2 at p2 ⊢
          go_wp2_with fail
          refine (HCP.out _).mono ?_
          rintro e w3 ⟨rfl, q, os, hb⟩
          have p3 : Prev w3 w2 .none := prev_call (hb ▸ grow_below w2 q os)
          have x3 := (At58 (At_below XQ.out (bel wr w3))).1
          have y3 := (At58 (At_below YQ.out (bel wr w3))).1
          rw [add_zero_] at x3 y3
          clear hb
          go_wp2_with ((with_reducible refine gate_builtin (b := .append) (xs := #[.tmp 43, .tmp 48]) rfl ?_); at_builtin; refine app41 (w0 := w) w.heap.size rfl (.tmp 43) (.tmp 48) rfl (.slice Ao out.length co) out b.f0 rfl ?aX ?aO ?aB ?aS ?aL ?_; (case aX => first | rfl | (simp only [World.size_setCell, size_setRow, World.size_alloc]; rfl)); (case aO => exact rowB HO.out (bel wr _)); (case aB => exact (inferInstance : Bel w.heap.size w _).out (by first | exact Nat.le_refl _ | omega)); (case aS => first | exact siz w _ | (have := siz w _; omega)); (case aL => omega); intro v6 w6 h6 hb6 hg6 hat6; have p6 := prev_above hb6; have HB6 := Aside0.mk hb6; have HV6 := Aside0.mk h6; clear hb6 h6 hg6 hat6)
          go_roundw
          case rel => exact ⟨_, _, (a :: xs), _, _, ys, _, rfl, rfl, by simp only [List.length_cons, List.length_nil] at *; omega, by simp only [List.length_cons, List.length_nil] at *; omega, HXC, HYD, HZX, HZYD, HIN, by simp only [List.length_append, List.length_cons, List.length_nil] at *; omega, HV6, HB6⟩
          case measure => simp only [lenV, List.length_cons, List.length_nil]; omega
        · subst h0
          have hI := HII.out
          rw [if_neg (by omega), if_neg (by omega), ← List.singleton_append, ← List.append_assoc] at hI
          have HIN : Aside0 ((out ++ [a.f0]) ++ mergeL (pathsK xs) (pathsK ys) = R) := ⟨hI⟩
          clear hI HII
          go_wp2_with fail
          go_still_tail 8, (by kernel_rfl)
          change wpList _ _ _ _ _ wr.drew
          have p2 : Prev wr.drew wr .none := inferInstance
          generalize wr.drew = w2 at p2 ⊢
          go_wp2_with fail
          refine (HCP.out _).mono ?_
          rintro e w3 ⟨rfl, q, os, hb⟩
          have p3 : Prev w3 w2 .none := prev_call (hb ▸ grow_below w2 q os)
          have x3 := (At58 (At_below XQ.out (bel wr w3))).1
          have y3 := (At58 (At_below YQ.out (bel wr w3))).1
          rw [add_zero_] at x3 y3
          clear hb
          go_wp2_with ((with_reducible refine gate_builtin (b := .append) (xs := #[.tmp 34, .tmp 39]) rfl ?_); at_builtin; refine app41 (w0 := w) w.heap.size rfl (.tmp 34) (.tmp 39) rfl (.slice Ao out.length co) out a.f0 rfl ?aX ?aO ?aB ?aS ?aL ?_; (case aX => first | rfl | (simp only [World.size_setCell, size_setRow, World.size_alloc]; rfl)); (case aO => exact rowB HO.out (bel wr _)); (case aB => exact (inferInstance : Bel w.heap.size w _).out (by first | exact Nat.le_refl _ | omega)); (case aS => first | exact siz w _ | (have := siz w _; omega)); (case aL => omega); intro v6 w6 h6 hb6 hg6 hat6; have p6 := prev_above hb6; have HB6 := Aside0.mk hb6; have HV6 := Aside0.mk h6; clear hb6 h6 hg6 hat6)
          go_roundw
          case rel => exact ⟨_, _, xs, _, _, ys, _, rfl, rfl, by simp only [List.length_cons, List.length_nil] at *; omega, by simp only [List.length_cons, List.length_nil] at *; omega, HXD, HYD, HZXD, HZYD, HIN, by simp only [List.length_append, List.length_cons, List.length_nil] at *; omega, HV6, HB6⟩
          case measure => simp only [lenV, List.length_cons, List.length_nil]; omega
end Go.Proofs.YtjllbkeobibnkaaDoor.Q

namespace Go.Proofs.YtjllbkeobibnkaaDoor.Q
open Go Go.Proofs Go.Shelf Go.RowKit Go.Lib Go.Sort Go.Proofs.YtjllbkeobibnkaaDoorP Go.Proofs.YtjllbkeobibnkaaDoorK Go.Proofs.YtjllbkeobibnkaaDoorW.PrintWords Go.Proofs.YtjllbkeobibnkaaDoorW.PrintLast Go.Proofs.YtjllbkeobibnkaaDoorW.PrintMore
set_option linter.unusedSimpArgs false
set_option linter.unusedVariables false
/-! ### slices.BinarySearchFunc over what is known -/
/-- What is ahead of a path. -/
def ltK (p : ByteArray) (k : S58) : Bool := decide (pcmp k.f0 p < 0)
def posK (p : ByteArray) (l : List S58) : Nat := (l.takeWhile (ltK p)).length
def hitK (p : ByteArray) (l : List S58) : Bool := match l[posK p l]? with
  | some k => decide (pcmp k.f0 p = 0)
  | none => false
/-- Rising. -/
def risK (l : List S58) : Prop := l.Pairwise fun x y => pcmp x.f0 y.f0 < 0
theorem posK_le (p : ByteArray) (l : List S58) : posK p l ≤ l.length := (List.takeWhile_sublist _).length_le
theorem posK_iff {p : ByteArray} {l : List S58} (h : risK l) (j : Nat) (hj : j < l.length) : pcmp l[j].f0 p < 0 ↔ j < posK p l := by
  induction l generalizing j with
  | nil => simp at hj
  | cons k l ih =>
    have h1 := List.pairwise_cons.1 h
    unfold posK
    rw [List.takeWhile_cons]
    by_cases hk : pcmp k.f0 p < 0
    · have e : ltK p k = true := decide_eq_true hk
      rw [if_pos e, List.length_cons]
      cases j with
      | zero => simp [hk]
      | succ j =>
        have := ih h1.2 j (by simpa using hj)
        rw [List.getElem_cons_succ, this]
        show _ ↔ j + 1 < posK p l + 1
        omega
    · have e : ltK p k = false := decide_eq_false hk
      rw [if_neg (by rw [e]; decide)]
      refine ⟨fun hc => ?_, fun hc => absurd hc (by simp)⟩
      cases j with
      | zero => exact absurd hc hk
      | succ j =>
        have hm := h1.1 _ (List.getElem_mem (by simpa using hj : j < l.length))
        rw [List.getElem_cons_succ] at hc
        exact absurd (good_path.trans _ _ _ hm hc) hk
attribute [local go_sem] A51_size A51_0 A51_1 A51_g0 A51_g1 A58_size A58_0 A58_1 A58_2 A58_g0 A58_g1 A58_g2 cell_held frozen_held
attribute [local go_sem] zero51 zero58 zero65
attribute [local go_sem ↓ high] lvx_of
attribute [local go_sem] lv_sc lv24 lv33
attribute [local go_sem ↓ high] lv51 lv51s lv58 lv58a lv65 lv65a lv65l lv65r sc51 sc58 sc65 sc65a sc65l sc65r sc58a
set_option maxRecDepth 100000 in
set_option maxHeartbeats 2000000 in
theorem with1_any (w : World) (k : S58) (p : ByteArray) (hk : k.f0.size ≤ 65536) (hp : p.size ≤ 65536) : Calls Tryd.prog 60 #[.agg (A58 k), .string p] w fun e w' => e = .returned (.int .i64 (pcmp k.f0 p)) ∧ Below w.heap.size w w' := by
  have HC := Aside0.mk (fun W => cmp_any W k.f0 p (by omega) (by omega))
  go_enter Tryd.func60, Tryd.ntmps60
  go_wp2_with fail
  refine (HC.out _).mono ?_
  rintro e w3 ⟨rfl, q, os, hb⟩
  have p3 : Prev w3 _ .none := prev_call (hb ▸ grow_below _ q os)
  clear hb
  go_wp2_with fail
  go_ret
  exact ⟨rfl, bel _ _⟩
set_option maxRecDepth 100000 in
set_option maxHeartbeats 2000000 in
theorem bsf_any (w : World) (A : Option Addr) (c : Nat) (l : List S58) (p : ByteArray) (hC : k58.C w A l.length l) (hs : shortK l = true) (hp : p.size ≤ 65536) (hr : risK l) :
    Calls Tryd.prog 59 #[.slice A l.length c, .string p, .func (.func 60) #[] #[]] w fun e w' => e = .returned (.tuple #[.int .i64 (posK p l : Int), .bool (hitK p l)]) ∧ Below w.heap.size w w' := by
  have eg : ∀ args w, (callFunc 60 args).run Tryd.prog w = .ok (.enter 60 args) w := enters_of Tryd.func60 (by kernel_rfl) rfl
  obtain ⟨hl, hsz⟩ := shortK_open hs
  have HR := Aside0.mk hC
  have HZ := Aside0.mk hsz
  have HW := Aside0.mk (fun W (k : S58) (hk : k.f0.size ≤ 65536) => with1_any W k p hk hp)
  have HI := Aside0.mk (fun j hj => posK_iff (p := p) hr j hj)
  have hpl := posK_le p l
  obtain ⟨P, hP⟩ : ∃ P, posK p l = P := ⟨_, rfl⟩
  have hH : ∃ b, hitK p l = b ∧ (∀ h : P < l.length, b = decide (pcmp l[P].f0 p = 0)) ∧ (¬ P < l.length → b = false) := by
    refine ⟨_, rfl, fun h => ?_, fun h => ?_⟩
    · unfold hitK
      rw [hP, List.getElem?_eq_getElem h]
    · unfold hitK
      rw [hP, List.getElem?_eq_none (by omega)]
  obtain ⟨b, hb, hb1, hb2⟩ := hH
  rw [hb, hP]
  rw [hP] at HI hpl
  have HB1 := Aside0.mk hb1
  have HB2 := Aside0.mk hb2
  clear hC hs hsz hr hP hb hb1 hb2 hp
  go_enter Tryd.func59, Tryd.ntmps59
  go_wp2_with fail
  go_loopw [9, 10] (fun i j wr => ∃ a b : Nat, a ≤ P ∧ P ≤ b ∧ b ≤ l.length ∧ i = .int .i64 (a : Int) ∧ j = .int .i64 (b : Int) ∧ Aside0 (Below w.heap.size w wr)) (fun i j _ => (intOf j).toNat - (intOf i).toNat)
  case atStart => exact ⟨0, l.length, Nat.zero_le _, hpl, Nat.le_refl _, rfl, rfl, ⟨bel _ _⟩⟩
  case round =>
    obtain ⟨a, b', ha, hb, hbl, rfl, rfl, HB⟩ := hrel
    have bw : Bel w.heap.size w wr := ⟨fun _ => HB.out⟩
    by_cases hlt : a < b'
    · obtain ⟨m, hm⟩ : ∃ m, (a + b') / 2 = m := ⟨_, rfl⟩
      have hm2 : ((a : Int) + (b' : Int)) / 2 = (m : Int) := by omega
      have hml : m < l.length := by omega
      have hma : a ≤ m := by omega
      have hmb : m < b' := by omega
      obtain ⟨ad, e, x0⟩ := C58_at HR.out m hml
      subst e
      have hi := HI.out m hml
      have hz := HZ.out _ (List.getElem_mem hml)
      generalize l[m] = x at x0 hi hz
      have HX := Aside0.mk (At_below x0 HB.out)
      have HWX := Aside0.mk (fun W => HW.out W x hz)
      generalize pcmp x.f0 p = z at HWX hi
      have HII := Aside0.mk hi
      clear x0 hi hz
      go_wp2_with (refine seg_load rfl 58 (.tmp 27) rfl HX.out (A58 x) rfl rfl Tryd.underlying58 rfl (by rw [L58_len]; exact info58s) ?_)
      refine (HWX.out _).mono ?_
      rintro e w1 ⟨rfl, hb1⟩
      have p1 := prev_call hb1
      clear hb1
      by_cases hz : z < 0
      · have hi := HII.out.1 hz
        go_wp2_with fail
        go_roundw
        case rel => exact ⟨m + 1, b', by omega, by omega, by omega, by go_num, rfl, ⟨bel _ _⟩⟩
        case measure => simp [intOf]; omega
      · have hi : ¬ m < P := fun h => hz (HII.out.2 h)
        have HIN := Aside0.mk hi
        clear hi
        go_wp2_with fail
        go_roundw
        case rel => exact ⟨a, m, by omega, by have := HIN.out; omega, by omega, rfl, rfl, ⟨bel _ _⟩⟩
        case measure => simp [intOf]; omega
    · obtain rfl : a = P := by omega
      obtain rfl : b' = a := by omega
      by_cases hn : b' < l.length
      · obtain ⟨ad, e, x0⟩ := C58_at HR.out b' hn
        subst e
        have hz := HZ.out _ (List.getElem_mem hn)
        have hb1 := HB1.out hn
        generalize l[b'] = x at x0 hz hb1
        have HX := Aside0.mk (At_below x0 HB.out)
        have HWX := Aside0.mk (fun W => HW.out W x hz)
        generalize pcmp x.f0 p = z at HWX hb1
        have HBB := Aside0.mk hb1
        have hld : (lvx 58 (ad.add (b' * 35))).run Tryd.prog wr = .ok (.agg (A58 x)) wr := run_loadVar_at HX.out Tryd.underlying58 rfl (by rw [L58_len]; exact info58s)
        clear x0 hz hb1
        go_wp2_with fail
        refine (HWX.out _).mono ?_
        rintro e w1 ⟨rfl, hb1⟩
        have p1 := prev_call hb1
        clear hb1
        go_wp2_with fail
        go_ret2
        exact ⟨by rw [HBB.out]; first | rfl | simp, bel _ _⟩
      · have hb2 := HB2.out hn
        subst hb2
        go_wp2_with fail
        go_ret2
        exact ⟨rfl, bel _ _⟩
end Go.Proofs.YtjllbkeobibnkaaDoor.Q

namespace Go.Proofs.YtjllbkeobibnkaaDoor.Q
open Go Go.Proofs Go.Shelf Go.RowKit Go.Proofs.YtjllbkeobibnkaaDoorK Go.Proofs.YtjllbkeobibnkaaDoorW.PrintWords Go.Proofs.YtjllbkeobibnkaaDoorW.PrintLast Go.Proofs.YtjllbkeobibnkaaDoorW.PrintMore
set_option linter.unusedSimpArgs false
set_option linter.unusedVariables false
/-! ### slices.Grow, slices.Concat over what is known -/
set_option maxRecDepth 100000 in
theorem grow_nil (w : World) (n : Nat) (hn : n ≤ 1048576) :
    Calls Tryd.prog 83 #[.slice none 0 0, .int .i64 (n : Int)] w fun e w' => ∃ v : Value, e = .returned v ∧ Kd.R k58 58 w' w.heap.size (fun _ => True) v [] ∧ Below w.heap.size w w' := by
  have HB0 := Aside0.mk (Below.refl w.heap.size w)
  by_cases h0 : n = 0
  · subst h0
    go_enter Tryd.func83, Tryd.ntmps83
    go_wp2_with fail
    go_ret
    exact ⟨_, rfl, Kd.R_nil _ _ _ _ _, HB0.out⟩
  · go_enter Tryd.func83, Tryd.ntmps83
    go_wp2_with ((with_reducible refine gate_builtin (b := .append) (xs := #[.tmp 20, .tmp 21]) rfl ?_); go_loud (at_builtin; refine Kd.R_append_zeros k58 (w0 := w) w.heap.size rfl (.tmp 20) (.tmp 21) 22 3 58 (.agg (A58 z58)) 64 rfl Tryd.underlying22 Tryd.underlying3 info58b (A58_size z58) (by decide) (by decide) (.slice none 0 0) [] z58 (kx := .i64) (n : Int) (fun _ => True) rfl rfl ?hz (fun _ _ => trivial) (Kd.R_nil _ _ _ _ _) (by omega) HB0.out (Nat.le_refl _) (by simp; omega) ?_; (case hz => exact (rfl : L58 z58 = L58 z58)); intro v1 w1 h1 hb1 hg1 hat1; obtain ⟨ad, c, rfl⟩ := Kd.R_slice1 h1 (by simp; omega); have H1 := Aside0.mk h1; have HB1 := Aside0.mk hb1; clear h1 hb1 hg1 hat1))
    go_ret
    exact ⟨_, rfl, by have := Kd.R_take H1.out (Nat.zero_le _); simpa using this, HB1.out⟩
theorem flat_take (ls : List (List S58)) (k : Nat) (h : k < ls.length) : (ls.take (k + 1)).flatten = (ls.take k).flatten ++ ls[k] := by
  rw [List.take_succ_eq_append_getElem h, List.flatten_append]
  simp
theorem flat_le (ls : List (List S58)) (k : Nat) : (ls.take k).flatten.length ≤ ls.flatten.length := by
  conv => rhs; rw [← List.take_append_drop k ls, List.flatten_append, List.length_append]
  omega
set_option maxRecDepth 100000 in
theorem concat_any (w : World) (b c : Nat) (ls : List (List S58)) (hl : ls.flatten.length ≤ 1048576) (hll : ls.length ≤ 1048576)
    (hc : ∀ j (h : j < ls.length), ∃ A' c', w.cell? ⟨b, j, none⟩ = some (.slice A' ls[j].length c') ∧ Kd.C k58 w A' ls[j].length ls[j]) :
    Calls Tryd.prog 62 #[.slice (some ⟨b, 0, none⟩) ls.length c] w fun e w' => ∃ v : Value, e = .returned v ∧ Kd.R k58 58 w' w.heap.size (fun _ => True) v ls.flatten ∧ Below w.heap.size w w' := by
  have HC := Aside0.mk hc
  clear hc
  have HB0 := Aside0.mk (Below.refl w.heap.size w)
  have hG := fun W n hn => grow_nil W n hn
  have HG := Aside0.mk hG
  clear hG
  go_enter Tryd.func62, Tryd.ntmps62
  go_wp2_with fail
  go_loopw [3, 11] (fun s i wr => ∃ j : Nat, j ≤ ls.length ∧ i = .int .i64 (j : Int) ∧ s = .int .i64 (((ls.take j).flatten.length : Nat) : Int) ∧ wr = w) (fun s i _ => ls.length - (intOf i).toNat)
  case atStart => exact ⟨0, Nat.zero_le _, rfl, rfl, rfl⟩
  case round =>
    obtain ⟨j, hj, rfl, rfl, hw⟩ := hrel
    obtain rfl : w = wr := hw.symm
    by_cases hlt : j < ls.length
    · obtain ⟨A', c', x0, hr⟩ := HC.out j hlt
      have h1 := flat_take ls j hlt
      have h2 := flat_le ls (j + 1)
      rw [h1, List.length_append] at h2
      have H1 := Aside0.mk h1
      clear h1
      generalize hq : (ls.take j).flatten.length = q at h2
      have h3 : ((ls.take (j + 1)).flatten.length : Nat) = q + ls[j].length := by rw [H1.out, List.length_append, hq]
      have H3 := Aside0.mk h3
      clear h3 hq H1
      generalize ls[j].length = m at x0 h2 H3
      go_wp2_with fail
      go_roundw
      case rel => exact ⟨j + 1, by omega, by go_num, by rw [H3.out]; go_num, trivial⟩
      case measure => simp [intOf]; omega
    · obtain rfl : j = ls.length := by omega
      have h2 := flat_le ls ls.length
      generalize hq : (ls.take ls.length).flatten.length = q at h2
      clear hq
      go_wp2_with fail
      refine (HG.out _ q (by omega)).mono ?_
      rintro e w2 ⟨v, rfl, hv, hb⟩
      have HV := Aside0.mk hv
      have HB := Aside0.mk hb
      clear hv hb
      go_wp2_with fail
      go_loopw [6, 27] (fun u i w3 => ∃ j : Nat, j ≤ ls.length ∧ i = .int .i64 (j : Int) ∧ Aside0 (Kd.R k58 58 w3 w.heap.size (fun _ => True) u (ls.take j).flatten) ∧ Aside0 (Below w.heap.size w w3)) (fun u i _ => ls.length - (intOf i).toNat)
      case atStart => exact ⟨0, Nat.zero_le _, rfl, HV, HB⟩
      case round =>
        obtain ⟨j, hj, rfl, HU, HB3⟩ := hrel
        by_cases hlt : j < ls.length
        · obtain ⟨A', c', x0, hr⟩ := HC.out j hlt
          replace x0 := (HB3.out.cell (World.block_lt_of_cell? w _ x0)).trans x0
          have hr := Kd.C_below hr HB3.out
          have h1 := flat_take ls j hlt
          have h2 := flat_le ls (j + 1)
          rw [h1, List.length_append] at h2
          have H1 := Aside0.mk h1
          clear h1
          have HR := Aside0.mk hr
          clear hr
          generalize ls[j] = y at x0 h2 H1 HR
          generalize (ls.take j).flatten = xs at HU h2 H1
          obtain ⟨A3, c3, rfl⟩ := Kd.R_slice HU.out
          go_wp2_with ((with_reducible refine gate_builtin (b := .append) (xs := #[.tmp 31, .tmp 32]) rfl ?_); at_builtin; refine Kd.R_append_rows k58 (w0 := w) w.heap.size rfl (.tmp 31) (.tmp 32) 22 58 (.agg (A58 z58)) 64 rfl Tryd.underlying22 info58b (A58_size z58) (by decide) (by decide) _ _ y _ _ _ (fun _ => True) (fun _ => False) rfl rfl HU.out HR.out (fun x cs h => h) (fun _ h => h.elim) (fun _ _ => trivial) HB3.out (by have := HB3.out.size; omega) (by omega) ?_; intro v1 w4 h4 hb4 hg4 hat4; obtain ⟨A4, c4, rfl⟩ := Kd.R_slice h4; have H4 := Aside0.mk h4; have HB4 := Aside0.mk hb4; clear h4 hb4 hg4 hat4)
          go_roundw
          case rel => exact ⟨j + 1, by omega, by go_num, ⟨by rw [H1.out]; have h4 := H4.out; rw [List.length_append] at h4; exact h4⟩, HB4⟩
          case measure => simp [intOf]; omega
        · obtain rfl : j = ls.length := by omega
          have hu := HU.out
          rw [List.take_length] at hu
          have HU' := Aside0.mk hu
          clear hu HU
          go_wp2_with fail
          go_ret
          exact ⟨_, rfl, HU'.out, HB3.out⟩
end Go.Proofs.YtjllbkeobibnkaaDoor.Q

namespace Go.Proofs.YtjllbkeobibnkaaDoorK
open Go Go.RowKit Go.Proofs.YtjllbkeobibnkaaDoorW.PrintWords Go.Proofs.YtjllbkeobibnkaaDoorW.PrintLast
set_option linter.unusedVariables false
/-! What a walk keeps, further: rows that were there when a round began, though other rows and boxes are written. -/
/-- Blocks of the types L that were there at W are as they were. -/
class RowsX (L : List Nat) (W W' : World) : Prop where
  out : W.heap.size ≤ W'.heap.size ∧ ∀ (k t : Nat) (cells : Array Value), W.heap[k]? = some (Obj.cells cells t (0, 0)) → t ∈ L → W'.heap[k]? = W.heap[k]?
instance (L : List Nat) (W : World) : RowsX L W W := ⟨Nat.le_refl _, fun _ _ _ _ _ => rfl⟩
theorem RowsX.step1 {L : List Nat} {W W1 W' : World} {T : Touch} (p : Prev W' W1 T) (h : RowsX L W W1) (o : ∀ (k t : Nat) (cells : Array Value), W.heap[k]? = some (Obj.cells cells t (0, 0)) → t ∈ L → T.Ok k) : RowsX L W W' :=
  ⟨Nat.le_trans h.out.1 p.out.size, fun k t cells hc ht => (p.out.block k (by have := blk_lt hc; have := h.out.1; omega) (o k t cells hc ht)).trans (h.out.2 k t cells hc ht)⟩
instance (L : List Nat) (W W1 W' : World) (T : Touch) [p : Prev W' W1 T] [h : RowsX L W W1] [o : NoRow L W1 T] : RowsX L W W' :=
  RowsX.step1 p h (fun k t cells hc ht => o.out k t cells ((h.out.2 k t cells hc ht).trans hc) ht)
instance (priority := low) (L : List Nat) (W W1 W' : World) (T : Touch) [p : Prev W' W1 T] [h : RowsX L W W1] [o : OwnB W.heap.size T] : RowsX L W W' :=
  RowsX.step1 p h (fun k t cells hc _ => o.out k (blk_lt hc))
theorem rowX {α : Type} {d : Kd α} {e base : Nat} {W W' : World} {v : Value} {xs : List α} (h : d.R e W base (fun _ => True) v xs) [r : RowsX (e :: d.E) W W'] : d.R e W' base (fun _ => True) v xs := by
  refine Kd.R_mono (Kd.R_step (Kd.R_bound h) (fun k hk hlt => ?_)) (fun _ hk => hk.1)
  obtain ⟨_, _, _, q, hq, cells, hc⟩ := hk
  exact r.out.2 k q cells hc hq
section
variable {α : Type} {d : Kd α} {e base b g t : Nat} {W W1 : World} {v : Value} {xs : List α} {L : List Nat} {cs : Array Value}
theorem noRow_g (_ : W.grownBy W1 v.ownBlock) (h : d.R e W base (fun _ => True) v xs) (hL : ∀ q, q ∈ L → q ≠ e) : NoRow L W (touchOf v.ownBlock) := noRow_R h hL
theorem apart_g (_ : W.grownBy W1 v.ownBlock) (h : d.R e W base (fun _ => True) v xs) [hg : Holds W g (.cells cs t (0, 0))] (ht : e ≠ t) : Apart g (touchOf v.ownBlock) := apart_R h hg.out ht
theorem ownB_g (_ : W.grownBy W1 v.ownBlock) (h : d.R e W base (fun _ => True) v xs) (hb : b ≤ base) : OwnB b (touchOf v.ownBlock) := ownB_R h hb
end
/-- t is none of L. -/
class NotIn (t : Nat) (L : List Nat) : Prop where
  out : ∀ q, q ∈ L → q ≠ t
instance (priority := low) (L : List Nat) (W : World) (g t : Nat) (cs : Array Value) [h : Holds W g (.cells cs t (0, 0))] [n : NotIn t L] : NoRow L W (.row g) := noRow_row h.out n.out
/-- What was written is b's own, or box g. -/
class OwnG (b g : Nat) (T : Touch) : Prop where
  out : ∀ k, k < b → k ≠ g → T.Ok k
instance (priority := low) (b g : Nat) (T : Touch) [h : OwnB b T] : OwnG b g T := ⟨fun k hk _ => h.out k hk⟩
instance (b g : Nat) : OwnG b g (.row g) := ⟨fun _ _ h => h⟩
/-- Below b only box g was written. -/
class Kp (b g : Nat) (W W' : World) : Prop where
  out : b ≤ W.heap.size → W.heap.size ≤ W'.heap.size ∧ ∀ k, k < b → k ≠ g → W'.heap[k]? = W.heap[k]?
instance (b g : Nat) (W : World) : Kp b g W W := ⟨fun _ => ⟨Nat.le_refl _, fun _ _ _ => rfl⟩⟩
instance (b g : Nat) (W W1 W' : World) (T : Touch) [p : Prev W' W1 T] [h : Kp b g W W1] [o : OwnG b g T] : Kp b g W W' :=
  ⟨fun hb => by
    have h1 := h.out hb
    have h2 := p.out
    exact ⟨Nat.le_trans h1.1 h2.size, fun k hk hg => (h2.block k (by have := h1.1; omega) (o.out k hk hg)).trans (h1.2 k hk hg)⟩⟩
theorem Kp.cell {b g : Nat} {W W' : World} (h : Kp b g W W') (hb : b = W.heap.size) {ad : Addr} {v : Value} (hx : W.cell? ad = some v) (hg : ad.block ≠ g) : W'.cell? ad = some v := by
  have h1 := (h.out (by omega)).2 ad.block (by rw [hb]; exact World.block_lt_of_cell? W _ hx) hg
  unfold World.cell? at hx ⊢
  rw [h1]
  exact hx
/-- A new block, in a region that draws its order. -/
theorem new_step {P : Program} {ops : Array Oper} {oi : Oper} {N : Option Tmp} {a : Act} {W : World} {K : Act → World → Prop} {Q : Exit → Act → World → Prop} {v : Value} {ob : Obj} (hw : Region.wanted oi (yielded ops a.tmps) = true) (hN : oi.dst = N) (hrun : (execOp a.eval oi).run P W = .ok (.value v) (W.alloc ob))
    (h : ∀ w1, Prev w1 W .none → Holds w1 W.heap.size ob → K (a.put N v) w1) : if Region.wanted oi (yielded ops a.tmps) = true then Oper.wp P oi a W K Q else K (a.put N undef) W :=
  value_ hw hN hrun (h _ inferInstance inferInstance)
end Go.Proofs.YtjllbkeobibnkaaDoorK

namespace Go.Proofs.YtjllbkeobibnkaaDoor.Q
open Go Go.Proofs Go.Shelf Go.RowKit Go.Lib Go.Sort Go.Proofs.YtjllbkeobibnkaaDoorP Go.Proofs.YtjllbkeobibnkaaDoorK Go.Proofs.YtjllbkeobibnkaaDoorW.PrintWords Go.Proofs.YtjllbkeobibnkaaDoorW.PrintLast Go.Proofs.YtjllbkeobibnkaaDoorW.PrintMore
set_option linter.unusedSimpArgs false
set_option linter.unusedVariables false
/-! ### merge.with -/
def endK (p : ByteArray) (l : List S58) : Nat := if hitK p l = true then posK p l + 1 else posK p l
def withS (l : List S58) (p : ByteArray) (a : S51) : List S58 := l.take (posK p l) ++ ([⟨p, a⟩] ++ l.drop (endK p l))
theorem endK_le (p : ByteArray) (l : List S58) : endK p l ≤ l.length := by
  have := posK_le p l
  unfold endK
  split
  · rename_i h
    unfold hitK at h
    split at h
    · rename_i k hk
      have := (List.getElem?_eq_some_iff.1 hk).1
      omega
    · cases h
  · exact this
theorem one58' {W : World} {g : Nat} (p : S58) (h : W.heap[g]? = some (.cells (A58 p) 58 (0, 0))) : k58.C W (some ⟨g, 0, none⟩) 1 [p] := by
  refine ⟨rfl, by decide, fun _ => ⟨_, rfl, fun j x hj => ?_⟩⟩
  obtain rfl : j = 0 := by
    have := (List.getElem?_eq_some_iff.1 hj).1
    simp at this
    omega
  obtain rfl : p = x := by simpa using hj
  refine ⟨L58 p, L58_len p, rfl, fun i u hi => ?_⟩
  rw [Nat.zero_mul, Nat.zero_add, Addr.add_lit, Nat.zero_add, blk_cell h]
  unfold A58
  simpa using hi
attribute [local go_sem] A51_size A51_0 A51_1 A51_g0 A51_g1 A58_size A58_0 A58_1 A58_2 A58_g0 A58_g1 A58_g2 cell_held frozen_held
theorem A58_ne (x : S58) : (A58 x = #[]) = False := eq_false (fun h => by have := congrArg Array.size h; rw [A58_size] at this; exact absurd this (by decide))
attribute [local go_sem] zero51 zero58 zero65 set58 laid58 laid58a A58_ne
attribute [local go_sem ↓ high] lvx_of
attribute [local go_sem] lv_sc lv24 lv33
attribute [local go_sem ↓ high] lv51 lv51s lv58 lv58a lv65 lv65a lv65l lv65r sc51 sc58 sc65 sc65a sc65l sc65r sc58a
--REGWORDS with5
def with5.T5 : Bool × List (List Nat × List Nat) := (true, [([], []), ([], []), ([0, 1], [0, 1]), ([], []), ([], []), ([3, 4], [3, 4]), ([5], [5]), ([], []), ([], []), ([7, 8], [7, 8]), ([2, 6, 9], [2, 6, 9]), ([10], [10]), ([11, 11, 0, 1, 2, 3, 4, 5, 6, 7, 8, 9, 10, 11], [11])])
def with5.B5 : List Nat := [0, 0, 3, 0, 0, 24, 56, 0, 0, 384, 1023, 2047, 4095]
theorem with5.tab5 : rtab .any (opsOf Tryd.f35 5) = with5.T5 := by kernel_rfl
theorem with5.bits5 : waitsOk with5.T5.2 with5.B5 = true := by kernel_rfl
--END
set_option maxRecDepth 100000 in
set_option maxHeartbeats 4000000 in
theorem with_any (w : World) (A : Option Addr) (c : Nat) (l : List S58) (p : ByteArray) (a : S51) (hC : k58.C w A l.length l) (hc : l.length ≤ c) (hs : shortK l = true) (hl : l.length ≤ 100000) (hp : p.size ≤ 65536) (hr : risK l) :
    Calls Tryd.prog 35 #[.slice A l.length c, .string p, .agg (A51 a)] w fun e w' => ∃ v, e = .returned v ∧ k58.R 58 w' w.heap.size (fun _ => True) v (withS l p a) ∧ Below w.heap.size w w' := by
  have HB := Aside0.mk (fun W (hb : Below w.heap.size w W) => bsf_any W A c l p (Kd.C_below hC hb) hs hp hr)
  have hpos := posK_le p l
  have hend := endK_le p l
  have HT := Aside0.mk (fun W (hb : Below w.heap.size w W) => Kd.C_take (Kd.C_below hC hb) hpos)
  have HD := Aside0.mk (fun W (hb : Below w.heap.size w W) => Kd.C_drop (Kd.C_below hC hb) hend hc)
  have hle : (l.take (posK p l)).length + ([(⟨p, a⟩ : S58)].length + (l.drop (endK p l)).length) ≤ 1048576 := by
    simp only [List.length_take, List.length_drop, List.length_cons, List.length_nil]
    omega
  unfold withS
  have ht1 : (l.take (posK p l)).length = posK p l := by rw [List.length_take]; omega
  have hd1 : (l.drop (endK p l)).length = l.length - endK p l := List.length_drop
  have hee : endK p l = if hitK p l = true then posK p l + 1 else posK p l := rfl
  have HCC := Aside0.mk (fun W b (x y z : List S58) (A1 A2 A3 : Option Addr) (c1 c2 c3 n1 n2 n3 : Nat) (e1 : n1 = x.length) (e2 : n2 = y.length) (e3 : n3 = z.length) (hb : W.heap[b]? = some (.cells #[.slice A1 n1 c1, .slice A2 n2 c2, .slice A3 n3 c3] 22 (0, 0))) (h1 : k58.C W A1 x.length x) (h2 : k58.C W A2 y.length y) (h3 : k58.C W A3 z.length z) (hl : x.length + (y.length + z.length) ≤ 1048576) =>
    (concat_any W b 3 [x, y, z] (by simpa using hl) (by simp) (fun j hj => by
      subst e1 e2 e3
      rcases (show j = 0 ∨ j = 1 ∨ j = 2 by simp at hj; omega) with rfl | rfl | rfl
      · exact ⟨A1, c1, (blk_cell hb 0).trans rfl, h1⟩
      · exact ⟨A2, c2, (blk_cell hb 1).trans rfl, h2⟩
      · exact ⟨A3, c3, (blk_cell hb 2).trans rfl, h3⟩)))
  generalize l.take (posK p l) = x at HT hle ht1 ⊢
  generalize l.drop (endK p l) = z at HD hle hd1 ⊢
  generalize endK p l = en at *
  generalize posK p l = po at *
  generalize hitK p l = hi at *
  have HE := Aside0.mk hee
  have hnone : A = none → l.length = 0 := fun h => by
    rcases Nat.eq_zero_or_pos l.length with h0 | h0
    · exact h0
    · obtain ⟨a, he, _⟩ := hC.2.2 h0
      rw [h] at he
      cases he
  clear hC hs hp hr hee
  generalize hn : l.length = n at *
  clear hn
  have hzl : ∀ X W, z = [] → k58.C W X z.length z := fun X W h => by subst h; exact ⟨rfl, by decide, fun h => absurd h (by decide)⟩
  have hmode : (A = none ∧ n = 0 ∧ po = 0 ∧ en = 0 ∧ hi = false ∧ ∀ W, Below w.heap.size w W → k58.C W none z.length z) ∨ (∃ ad, A = some ad ∧ c = en ∧ ∀ W, Below w.heap.size w W → k58.C W (some ad) z.length z) ∨ (∃ ad, A = some ad ∧ ¬ c = en ∧ ∀ W, Below w.heap.size w W → k58.C W (some (ad.add (en * 35))) z.length z) := by
    cases A with
    | none =>
      have h0 := hnone rfl
      refine .inl ⟨rfl, h0, by omega, by omega, ?_, fun W _ => hzl _ W (List.eq_nil_of_length_eq_zero (by omega))⟩
      cases hi with
      | false => rfl
      | true => have := HE.out; rw [if_pos rfl] at this; omega
    | some ad =>
      by_cases hce : c = en
      · exact .inr (.inl ⟨ad, rfl, hce, fun W _ => hzl _ W (List.eq_nil_of_length_eq_zero (by omega))⟩)
      · exact .inr (.inr ⟨ad, rfl, hce, fun W hb => by have := HD.out W hb; rw [if_neg hce] at this; exact this⟩)
  clear hzl hnone HD
  rcases hmode with ⟨rfl, rfl, rfl, rfl, rfl, hD3⟩ | ⟨ad, rfl, hce, hD3⟩ | ⟨ad, rfl, hce, hD3⟩
  rotate_left
  · cases hi with
    | true =>
      have he := HE.out
      rw [if_pos rfl] at he
      subst he
      subst hce
      have q1 : (po : Int) ≤ (po : Int) + 1 := by omega
      have q2 : (0 : Int) ≤ (po : Int) + 1 := by omega
      have q3 : (po : Int) + 1 ≤ (n : Int) := by omega
      have HD3 := Aside0.mk hD3
      clear hD3
      go_enter Tryd.func35, Tryd.ntmps35
      go_wp2_with fail
      refine (HB.out _ (bel _ _)).mono ?_
      rintro e w1 ⟨rfl, hb1⟩
      have p1 := prev_call hb1
      clear hb1
      go_wp2_with fail
      --REG with5
      refine start_ (n := 13) (S := fun w' => w'.heap[w.heap.size]? = some (.cells (A51 a) 51 (0, 0))) (ds := []) #[false, false, false, false, false, false, false, false, false, false, false, false, false] (by kernel_rfl) rfl rfl held (fun hHeld => ?_); refine with_tabW with5.tab5 with5.bits5 (fun HT_ HW_ => ?_)
      refine pure_ (i := 0) (N := some 20) (v := ?_) (a' := ?_) #[true, false, false, false, false, false, false, false, false, false, false, false, false] rfl rfl (any_of HT_.out (by kernel_rfl)) (fun _ _ _ h => h) (Or.inl ⟨by rfl, ?_⟩) ?_ ?_
      rotate_left
      · intro w'
        go_simp
        with_reducible rfl
      rotate_left
      · simp only [Act.put, List.setIfInBounds_toArray, List.set_cons_zero, List.set_cons_succ, i64_w, i32_w]
        rfl
      refine pure_ (i := 1) (N := some 21) (v := ?_) (a' := ?_) #[true, true, false, false, false, false, false, false, false, false, false, false, false] rfl rfl (any_of HT_.out (by kernel_rfl)) (fun _ _ _ h => h) (Or.inl ⟨by rfl, ?_⟩) ?_ ?_
      rotate_left
      · intro w'
        go_simp
        with_reducible rfl
      rotate_left
      · simp only [Act.put, List.setIfInBounds_toArray, List.set_cons_zero, List.set_cons_succ, i64_w, i32_w]
        rfl
      refine pure_ (i := 2) (N := some 22) (v := ?_) (a' := ?_) #[true, true, true, false, false, false, false, false, false, false, false, false, false] rfl rfl (any_of HT_.out (by kernel_rfl)) (fun _ _ _ h => h) (Or.inl ⟨by rfl, ?_⟩) ?_ ?_
      rotate_left
      · intro w'
        go_simp
        with_reducible rfl
      rotate_left
      · simp only [Act.put, List.setIfInBounds_toArray, List.set_cons_zero, List.set_cons_succ, i64_w, i32_w]
        rfl
      refine pure_ (i := 3) (N := some 23) (v := ?_) (a' := ?_) #[true, true, true, true, false, false, false, false, false, false, false, false, false] rfl rfl (any_of HT_.out (by kernel_rfl)) (fun _ _ _ h => h) (Or.inl ⟨by rfl, ?_⟩) ?_ ?_
      rotate_left
      · intro w'
        go_simp
        with_reducible rfl
      rotate_left
      · simp only [Act.put, List.setIfInBounds_toArray, List.set_cons_zero, List.set_cons_succ, i64_w, i32_w]
        rfl
      refine pure_ (i := 7) (N := some 27) (v := ?_) (a' := ?_) #[true, true, true, true, false, false, false, true, false, false, false, false, false] rfl rfl (any_of HT_.out (by kernel_rfl)) (fun _ _ _ h => h) (Or.inl ⟨by rfl, ?_⟩) ?_ ?_
      rotate_left
      · intro w'
        go_simp
        with_reducible rfl
      rotate_left
      · simp only [Act.put, List.setIfInBounds_toArray, List.set_cons_zero, List.set_cons_succ, i64_w, i32_w]
        rfl
      refine pure_ (i := 8) (N := some 28) (v := ?_) (a' := ?_) #[true, true, true, true, false, false, false, true, true, false, false, false, false] rfl rfl (any_of HT_.out (by kernel_rfl)) (fun _ _ _ h => h) (Or.inl ⟨by rfl, ?_⟩) ?_ ?_
      rotate_left
      · intro w'
        go_simp
        with_reducible rfl
      rotate_left
      · simp only [Act.put, List.setIfInBounds_toArray, List.set_cons_zero, List.set_cons_succ, i64_w, i32_w]
        rfl
      refine pure_ (i := 9) (N := some 29) (v := ?_) (a' := ?_) #[true, true, true, true, false, false, false, true, true, true, false, false, false] rfl rfl (any_of HT_.out (by kernel_rfl)) (fun _ _ _ h => h) (Or.inl ⟨by rfl, ?_⟩) ?_ ?_
      rotate_left
      · intro w'
        go_simp
        with_reducible rfl
      rotate_left
      · simp only [Act.put, List.setIfInBounds_toArray, List.set_cons_zero, List.set_cons_succ, i64_w, i32_w]
        rfl
      refine take_ (i := 4) (N := some 24) (v := ?_) (a' := ?_) #[true, true, true, true, true, false, false, true, true, true, false, false, false] rfl rfl (take_ofW HT_.out HW_.out (by kernel_rfl)) (fun _ _ _ h => h) (Or.inl ⟨by rfl, ?_⟩) hHeld ?_ ?_
      rotate_left
      · rintro w' s0
        have i0 : Go.Proofs.YtjllbkeobibnkaaDoorK.Holds w' w.heap.size (.cells (A51 a) 51) := ⟨s0⟩
        go_simp
        with_reducible rfl
      rotate_left
      · simp only [Act.put, List.setIfInBounds_toArray, List.set_cons_zero, List.set_cons_succ, i64_w, i32_w]
        rfl
      refine pure_ (i := 5) (N := some 25) (v := ?_) (a' := ?_) #[true, true, true, true, true, true, false, true, true, true, false, false, false] rfl rfl (any_of HT_.out (by kernel_rfl)) (fun _ _ _ h => h) (Or.inl ⟨by rfl, ?_⟩) ?_ ?_
      rotate_left
      · intro w'
        go_simp
        with_reducible rfl
      rotate_left
      · simp only [Act.put, List.setIfInBounds_toArray, List.set_cons_zero, List.set_cons_succ, i64_w, i32_w]
        rfl
      refine one_ (i := 6) (N := some 26) #[true, true, true, true, true, true, true, true, true, true, false, false, false] rfl rfl (one_of HT_.out (by kernel_rfl)) (by decide) (fun K hK => ?_)
      refine new_step (ob := .cells (A58 ⟨p, a⟩) 58) (by rfl) rfl (by go_simp; rfl) ?_
      intro w2 p2 h2
      refine hK.out _ _ held (fun hHeld => ?_)
      clear hK K
      refine norm_ (a' := ?_) ?_ ?_
      rotate_left
      · show Act.put _ (some 26) _ = _
        simp only [Act.put, List.setIfInBounds_toArray, List.set_cons_zero, List.set_cons_succ, i64_w, i32_w]
        rfl
      refine one_ (i := 10) (N := some 30) #[true, true, true, true, true, true, true, true, true, true, true, false, false] rfl rfl (one_of HT_.out (by kernel_rfl)) (by decide) (fun K hK => ?_)
      refine new_step (ob := .cells #[_, _, _] 22) (by rfl) rfl (by go_simp; first | rfl | exact ⟨rfl, rfl⟩) ?_
      intro w3 p3 h3
      refine hK.out _ _ held (fun hHeld => ?_)
      clear hK K
      refine norm_ (a' := ?_) ?_ ?_
      rotate_left
      · show Act.put _ (some 30) _ = _
        simp only [Act.put, List.setIfInBounds_toArray, List.set_cons_zero, List.set_cons_succ, i64_w, i32_w]
        rfl
      refine one_ (i := 11) (N := some 31) #[true, true, true, true, true, true, true, true, true, true, true, true, false] rfl rfl (one_of HT_.out (by kernel_rfl)) (by decide) (fun K hK => ?_)
      refine goes_ Tryd.func62 (by kernel_rfl) rfl #[.slice (some ⟨w2.heap.size, 0, none⟩) 3 3] (by rfl) rfl rfl (by (try simp only [List.map_toArray, List.map_cons, List.map_nil]); first | done | rfl) ?_
      refine (HCC.out _ _ x [⟨p, a⟩] z _ _ _ _ _ _ _ _ _ ?e1 ?e2 ?e3 held ?h1 ?h2 ?h3 hle).mono ?_
      case e1 => omega
      case e2 => rfl
      case e3 => omega
      case h1 => exact HT.out _ (bel _ _)
      case h2 => exact Kd.C_below (one58' _ (held (W := w2) (g := w1.drew.heap.size))) (bel _ _)
      case h3 => exact HD3.out _ (bel _ _)
      rintro e4 w4 ⟨v4, rfl, hv, hb⟩
      have p4 := prev_call hb
      have HV4 := Aside0.mk hv
      clear hb hv
      refine ⟨_, rfl, ?_⟩
      refine hK.out _ _ held (fun hHeld => ?_)
      clear hK K
      refine norm_ (a' := ?_) ?_ ?_
      rotate_left
      · show Act.put _ (some 31) _ = _
        simp only [Act.put, List.setIfInBounds_toArray, List.set_cons_zero, List.set_cons_succ, i64_w, i32_w]
        rfl
      refine pure_ (i := 12) (N := some 6) (v := ?_) (a' := ?_) #[true, true, true, true, true, true, true, true, true, true, true, true, true] rfl rfl (any_of HT_.out (by kernel_rfl)) (fun _ _ _ h => h) (Or.inl ⟨by rfl, ?_⟩) ?_ ?_
      rotate_left
      · intro w'
        go_simp
        with_reducible rfl
      rotate_left
      · simp only [Act.put, List.setIfInBounds_toArray, List.set_cons_zero, List.set_cons_succ, i64_w, i32_w]
        rfl
      refine done_ (done_of HT_.out (by kernel_rfl)) ?_
      --END
      go_wp2_with fail
      go_ret
      exact ⟨_, rfl, Kd.R_lower (by simpa using HV4.out) (siz w _), bel _ _⟩
    | false =>
      have he := HE.out
      rw [if_neg (by decide)] at he
      obtain rfl : po = en := he.symm
      obtain rfl : po = c := hce.symm
      have q3 : (po : Int) ≤ (n : Int) := by omega
      have HD3 := Aside0.mk hD3
      clear hD3
      go_enter Tryd.func35, Tryd.ntmps35
      go_wp2_with fail
      refine (HB.out _ (bel _ _)).mono ?_
      rintro e w1 ⟨rfl, hb1⟩
      have p1 := prev_call hb1
      clear hb1
      go_wp2_with fail
      --REG with5
      refine start_ (n := 13) (S := fun w' => w'.heap[w.heap.size]? = some (.cells (A51 a) 51 (0, 0))) (ds := []) #[false, false, false, false, false, false, false, false, false, false, false, false, false] (by kernel_rfl) rfl rfl held (fun hHeld => ?_); refine with_tabW with5.tab5 with5.bits5 (fun HT_ HW_ => ?_)
      refine pure_ (i := 0) (N := some 20) (v := ?_) (a' := ?_) #[true, false, false, false, false, false, false, false, false, false, false, false, false] rfl rfl (any_of HT_.out (by kernel_rfl)) (fun _ _ _ h => h) (Or.inl ⟨by rfl, ?_⟩) ?_ ?_
      rotate_left
      · intro w'
        go_simp
        with_reducible rfl
      rotate_left
      · simp only [Act.put, List.setIfInBounds_toArray, List.set_cons_zero, List.set_cons_succ, i64_w, i32_w]
        rfl
      refine pure_ (i := 1) (N := some 21) (v := ?_) (a' := ?_) #[true, true, false, false, false, false, false, false, false, false, false, false, false] rfl rfl (any_of HT_.out (by kernel_rfl)) (fun _ _ _ h => h) (Or.inl ⟨by rfl, ?_⟩) ?_ ?_
      rotate_left
      · intro w'
        go_simp
        with_reducible rfl
      rotate_left
      · simp only [Act.put, List.setIfInBounds_toArray, List.set_cons_zero, List.set_cons_succ, i64_w, i32_w]
        rfl
      refine pure_ (i := 2) (N := some 22) (v := ?_) (a' := ?_) #[true, true, true, false, false, false, false, false, false, false, false, false, false] rfl rfl (any_of HT_.out (by kernel_rfl)) (fun _ _ _ h => h) (Or.inl ⟨by rfl, ?_⟩) ?_ ?_
      rotate_left
      · intro w'
        go_simp
        with_reducible rfl
      rotate_left
      · simp only [Act.put, List.setIfInBounds_toArray, List.set_cons_zero, List.set_cons_succ, i64_w, i32_w]
        rfl
      refine pure_ (i := 3) (N := some 23) (v := ?_) (a' := ?_) #[true, true, true, true, false, false, false, false, false, false, false, false, false] rfl rfl (any_of HT_.out (by kernel_rfl)) (fun _ _ _ h => h) (Or.inl ⟨by rfl, ?_⟩) ?_ ?_
      rotate_left
      · intro w'
        go_simp
        with_reducible rfl
      rotate_left
      · simp only [Act.put, List.setIfInBounds_toArray, List.set_cons_zero, List.set_cons_succ, i64_w, i32_w]
        rfl
      refine pure_ (i := 7) (N := some 27) (v := ?_) (a' := ?_) #[true, true, true, true, false, false, false, true, false, false, false, false, false] rfl rfl (any_of HT_.out (by kernel_rfl)) (fun _ _ _ h => h) (Or.inl ⟨by rfl, ?_⟩) ?_ ?_
      rotate_left
      · intro w'
        go_simp
        with_reducible rfl
      rotate_left
      · simp only [Act.put, List.setIfInBounds_toArray, List.set_cons_zero, List.set_cons_succ, i64_w, i32_w]
        rfl
      refine pure_ (i := 8) (N := some 28) (v := ?_) (a' := ?_) #[true, true, true, true, false, false, false, true, true, false, false, false, false] rfl rfl (any_of HT_.out (by kernel_rfl)) (fun _ _ _ h => h) (Or.inl ⟨by rfl, ?_⟩) ?_ ?_
      rotate_left
      · intro w'
        go_simp
        with_reducible rfl
      rotate_left
      · simp only [Act.put, List.setIfInBounds_toArray, List.set_cons_zero, List.set_cons_succ, i64_w, i32_w]
        rfl
      refine pure_ (i := 9) (N := some 29) (v := ?_) (a' := ?_) #[true, true, true, true, false, false, false, true, true, true, false, false, false] rfl rfl (any_of HT_.out (by kernel_rfl)) (fun _ _ _ h => h) (Or.inl ⟨by rfl, ?_⟩) ?_ ?_
      rotate_left
      · intro w'
        go_simp
        with_reducible rfl
      rotate_left
      · simp only [Act.put, List.setIfInBounds_toArray, List.set_cons_zero, List.set_cons_succ, i64_w, i32_w]
        rfl
      refine take_ (i := 4) (N := some 24) (v := ?_) (a' := ?_) #[true, true, true, true, true, false, false, true, true, true, false, false, false] rfl rfl (take_ofW HT_.out HW_.out (by kernel_rfl)) (fun _ _ _ h => h) (Or.inl ⟨by rfl, ?_⟩) hHeld ?_ ?_
      rotate_left
      · rintro w' s0
        have i0 : Go.Proofs.YtjllbkeobibnkaaDoorK.Holds w' w.heap.size (.cells (A51 a) 51) := ⟨s0⟩
        go_simp
        with_reducible rfl
      rotate_left
      · simp only [Act.put, List.setIfInBounds_toArray, List.set_cons_zero, List.set_cons_succ, i64_w, i32_w]
        rfl
      refine pure_ (i := 5) (N := some 25) (v := ?_) (a' := ?_) #[true, true, true, true, true, true, false, true, true, true, false, false, false] rfl rfl (any_of HT_.out (by kernel_rfl)) (fun _ _ _ h => h) (Or.inl ⟨by rfl, ?_⟩) ?_ ?_
      rotate_left
      · intro w'
        go_simp
        with_reducible rfl
      rotate_left
      · simp only [Act.put, List.setIfInBounds_toArray, List.set_cons_zero, List.set_cons_succ, i64_w, i32_w]
        rfl
      refine one_ (i := 6) (N := some 26) #[true, true, true, true, true, true, true, true, true, true, false, false, false] rfl rfl (one_of HT_.out (by kernel_rfl)) (by decide) (fun K hK => ?_)
      refine new_step (ob := .cells (A58 ⟨p, a⟩) 58) (by rfl) rfl (by go_simp; rfl) ?_
      intro w2 p2 h2
      refine hK.out _ _ held (fun hHeld => ?_)
      clear hK K
      refine norm_ (a' := ?_) ?_ ?_
      rotate_left
      · show Act.put _ (some 26) _ = _
        simp only [Act.put, List.setIfInBounds_toArray, List.set_cons_zero, List.set_cons_succ, i64_w, i32_w]
        rfl
      refine one_ (i := 10) (N := some 30) #[true, true, true, true, true, true, true, true, true, true, true, false, false] rfl rfl (one_of HT_.out (by kernel_rfl)) (by decide) (fun K hK => ?_)
      refine new_step (ob := .cells #[_, _, _] 22) (by rfl) rfl (by go_simp; first | rfl | exact ⟨rfl, rfl⟩) ?_
      intro w3 p3 h3
      refine hK.out _ _ held (fun hHeld => ?_)
      clear hK K
      refine norm_ (a' := ?_) ?_ ?_
      rotate_left
      · show Act.put _ (some 30) _ = _
        simp only [Act.put, List.setIfInBounds_toArray, List.set_cons_zero, List.set_cons_succ, i64_w, i32_w]
        rfl
      refine one_ (i := 11) (N := some 31) #[true, true, true, true, true, true, true, true, true, true, true, true, false] rfl rfl (one_of HT_.out (by kernel_rfl)) (by decide) (fun K hK => ?_)
      refine goes_ Tryd.func62 (by kernel_rfl) rfl #[.slice (some ⟨w2.heap.size, 0, none⟩) 3 3] (by rfl) rfl rfl (by (try simp only [List.map_toArray, List.map_cons, List.map_nil]); first | done | rfl) ?_
      refine (HCC.out _ _ x [⟨p, a⟩] z _ _ _ _ _ _ _ _ _ ?e1 ?e2 ?e3 held ?h1 ?h2 ?h3 hle).mono ?_
      case e1 => omega
      case e2 => rfl
      case e3 => omega
      case h1 => exact HT.out _ (bel _ _)
      case h2 => exact Kd.C_below (one58' _ (held (W := w2) (g := w1.drew.heap.size))) (bel _ _)
      case h3 => exact HD3.out _ (bel _ _)
      rintro e4 w4 ⟨v4, rfl, hv, hb⟩
      have p4 := prev_call hb
      have HV4 := Aside0.mk hv
      clear hb hv
      refine ⟨_, rfl, ?_⟩
      refine hK.out _ _ held (fun hHeld => ?_)
      clear hK K
      refine norm_ (a' := ?_) ?_ ?_
      rotate_left
      · show Act.put _ (some 31) _ = _
        simp only [Act.put, List.setIfInBounds_toArray, List.set_cons_zero, List.set_cons_succ, i64_w, i32_w]
        rfl
      refine pure_ (i := 12) (N := some 6) (v := ?_) (a' := ?_) #[true, true, true, true, true, true, true, true, true, true, true, true, true] rfl rfl (any_of HT_.out (by kernel_rfl)) (fun _ _ _ h => h) (Or.inl ⟨by rfl, ?_⟩) ?_ ?_
      rotate_left
      · intro w'
        go_simp
        with_reducible rfl
      rotate_left
      · simp only [Act.put, List.setIfInBounds_toArray, List.set_cons_zero, List.set_cons_succ, i64_w, i32_w]
        rfl
      refine done_ (done_of HT_.out (by kernel_rfl)) ?_
      --END
      go_wp2_with fail
      go_ret
      exact ⟨_, rfl, Kd.R_lower (by simpa using HV4.out) (siz w _), bel _ _⟩
  · cases hi with
    | true =>
      have he := HE.out
      rw [if_pos rfl] at he
      subst he
      have q1 : po ≤ c := by omega
      have q2 : (0 : Int) ≤ (po : Int) + 1 := by omega
      have q3 : (po : Int) + 1 ≤ (n : Int) := by omega
      have HD3 := Aside0.mk hD3
      clear hD3
      go_enter Tryd.func35, Tryd.ntmps35
      go_wp2_with fail
      refine (HB.out _ (bel _ _)).mono ?_
      rintro e w1 ⟨rfl, hb1⟩
      have p1 := prev_call hb1
      clear hb1
      go_wp2_with fail
      --REG with5
      refine start_ (n := 13) (S := fun w' => w'.heap[w.heap.size]? = some (.cells (A51 a) 51 (0, 0))) (ds := []) #[false, false, false, false, false, false, false, false, false, false, false, false, false] (by kernel_rfl) rfl rfl held (fun hHeld => ?_); refine with_tabW with5.tab5 with5.bits5 (fun HT_ HW_ => ?_)
      refine pure_ (i := 0) (N := some 20) (v := ?_) (a' := ?_) #[true, false, false, false, false, false, false, false, false, false, false, false, false] rfl rfl (any_of HT_.out (by kernel_rfl)) (fun _ _ _ h => h) (Or.inl ⟨by rfl, ?_⟩) ?_ ?_
      rotate_left
      · intro w'
        go_simp
        with_reducible rfl
      rotate_left
      · simp only [Act.put, List.setIfInBounds_toArray, List.set_cons_zero, List.set_cons_succ, i64_w, i32_w]
        rfl
      refine pure_ (i := 1) (N := some 21) (v := ?_) (a' := ?_) #[true, true, false, false, false, false, false, false, false, false, false, false, false] rfl rfl (any_of HT_.out (by kernel_rfl)) (fun _ _ _ h => h) (Or.inl ⟨by rfl, ?_⟩) ?_ ?_
      rotate_left
      · intro w'
        go_simp
        with_reducible rfl
      rotate_left
      · simp only [Act.put, List.setIfInBounds_toArray, List.set_cons_zero, List.set_cons_succ, i64_w, i32_w]
        rfl
      refine pure_ (i := 2) (N := some 22) (v := ?_) (a' := ?_) #[true, true, true, false, false, false, false, false, false, false, false, false, false] rfl rfl (any_of HT_.out (by kernel_rfl)) (fun _ _ _ h => h) (Or.inl ⟨by rfl, ?_⟩) ?_ ?_
      rotate_left
      · intro w'
        go_simp
        with_reducible rfl
      rotate_left
      · simp only [Act.put, List.setIfInBounds_toArray, List.set_cons_zero, List.set_cons_succ, i64_w, i32_w]
        rfl
      refine pure_ (i := 3) (N := some 23) (v := ?_) (a' := ?_) #[true, true, true, true, false, false, false, false, false, false, false, false, false] rfl rfl (any_of HT_.out (by kernel_rfl)) (fun _ _ _ h => h) (Or.inl ⟨by rfl, ?_⟩) ?_ ?_
      rotate_left
      · intro w'
        go_simp
        with_reducible rfl
      rotate_left
      · simp only [Act.put, List.setIfInBounds_toArray, List.set_cons_zero, List.set_cons_succ, i64_w, i32_w]
        rfl
      refine pure_ (i := 7) (N := some 27) (v := ?_) (a' := ?_) #[true, true, true, true, false, false, false, true, false, false, false, false, false] rfl rfl (any_of HT_.out (by kernel_rfl)) (fun _ _ _ h => h) (Or.inl ⟨by rfl, ?_⟩) ?_ ?_
      rotate_left
      · intro w'
        go_simp
        with_reducible rfl
      rotate_left
      · simp only [Act.put, List.setIfInBounds_toArray, List.set_cons_zero, List.set_cons_succ, i64_w, i32_w]
        rfl
      refine pure_ (i := 8) (N := some 28) (v := ?_) (a' := ?_) #[true, true, true, true, false, false, false, true, true, false, false, false, false] rfl rfl (any_of HT_.out (by kernel_rfl)) (fun _ _ _ h => h) (Or.inl ⟨by rfl, ?_⟩) ?_ ?_
      rotate_left
      · intro w'
        go_simp
        with_reducible rfl
      rotate_left
      · simp only [Act.put, List.setIfInBounds_toArray, List.set_cons_zero, List.set_cons_succ, i64_w, i32_w]
        rfl
      refine pure_ (i := 9) (N := some 29) (v := ?_) (a' := ?_) #[true, true, true, true, false, false, false, true, true, true, false, false, false] rfl rfl (any_of HT_.out (by kernel_rfl)) (fun _ _ _ h => h) (Or.inl ⟨by rfl, ?_⟩) ?_ ?_
      rotate_left
      · intro w'
        go_simp
        with_reducible rfl
      rotate_left
      · simp only [Act.put, List.setIfInBounds_toArray, List.set_cons_zero, List.set_cons_succ, i64_w, i32_w]
        rfl
      refine take_ (i := 4) (N := some 24) (v := ?_) (a' := ?_) #[true, true, true, true, true, false, false, true, true, true, false, false, false] rfl rfl (take_ofW HT_.out HW_.out (by kernel_rfl)) (fun _ _ _ h => h) (Or.inl ⟨by rfl, ?_⟩) hHeld ?_ ?_
      rotate_left
      · rintro w' s0
        have i0 : Go.Proofs.YtjllbkeobibnkaaDoorK.Holds w' w.heap.size (.cells (A51 a) 51) := ⟨s0⟩
        go_simp
        with_reducible rfl
      rotate_left
      · simp only [Act.put, List.setIfInBounds_toArray, List.set_cons_zero, List.set_cons_succ, i64_w, i32_w]
        rfl
      refine pure_ (i := 5) (N := some 25) (v := ?_) (a' := ?_) #[true, true, true, true, true, true, false, true, true, true, false, false, false] rfl rfl (any_of HT_.out (by kernel_rfl)) (fun _ _ _ h => h) (Or.inl ⟨by rfl, ?_⟩) ?_ ?_
      rotate_left
      · intro w'
        go_simp
        with_reducible rfl
      rotate_left
      · simp only [Act.put, List.setIfInBounds_toArray, List.set_cons_zero, List.set_cons_succ, i64_w, i32_w]
        rfl
      refine one_ (i := 6) (N := some 26) #[true, true, true, true, true, true, true, true, true, true, false, false, false] rfl rfl (one_of HT_.out (by kernel_rfl)) (by decide) (fun K hK => ?_)
      refine new_step (ob := .cells (A58 ⟨p, a⟩) 58) (by rfl) rfl (by go_simp; rfl) ?_
      intro w2 p2 h2
      refine hK.out _ _ held (fun hHeld => ?_)
      clear hK K
      refine norm_ (a' := ?_) ?_ ?_
      rotate_left
      · show Act.put _ (some 26) _ = _
        simp only [Act.put, List.setIfInBounds_toArray, List.set_cons_zero, List.set_cons_succ, i64_w, i32_w]
        rfl
      refine one_ (i := 10) (N := some 30) #[true, true, true, true, true, true, true, true, true, true, true, false, false] rfl rfl (one_of HT_.out (by kernel_rfl)) (by decide) (fun K hK => ?_)
      refine new_step (ob := .cells #[_, _, _] 22) (by rfl) rfl (by go_simp; first | rfl | exact ⟨rfl, rfl⟩) ?_
      intro w3 p3 h3
      refine hK.out _ _ held (fun hHeld => ?_)
      clear hK K
      refine norm_ (a' := ?_) ?_ ?_
      rotate_left
      · show Act.put _ (some 30) _ = _
        simp only [Act.put, List.setIfInBounds_toArray, List.set_cons_zero, List.set_cons_succ, i64_w, i32_w]
        rfl
      refine one_ (i := 11) (N := some 31) #[true, true, true, true, true, true, true, true, true, true, true, true, false] rfl rfl (one_of HT_.out (by kernel_rfl)) (by decide) (fun K hK => ?_)
      refine goes_ Tryd.func62 (by kernel_rfl) rfl #[.slice (some ⟨w2.heap.size, 0, none⟩) 3 3] (by rfl) rfl rfl (by (try simp only [List.map_toArray, List.map_cons, List.map_nil]); first | done | rfl) ?_
      refine (HCC.out _ _ x [⟨p, a⟩] z _ _ _ _ _ _ _ _ _ ?e1 ?e2 ?e3 held ?h1 ?h2 ?h3 hle).mono ?_
      case e1 => omega
      case e2 => rfl
      case e3 => omega
      case h1 => exact HT.out _ (bel _ _)
      case h2 => exact Kd.C_below (one58' _ (held (W := w2) (g := w1.drew.heap.size))) (bel _ _)
      case h3 => exact HD3.out _ (bel _ _)
      rintro e4 w4 ⟨v4, rfl, hv, hb⟩
      have p4 := prev_call hb
      have HV4 := Aside0.mk hv
      clear hb hv
      refine ⟨_, rfl, ?_⟩
      refine hK.out _ _ held (fun hHeld => ?_)
      clear hK K
      refine norm_ (a' := ?_) ?_ ?_
      rotate_left
      · show Act.put _ (some 31) _ = _
        simp only [Act.put, List.setIfInBounds_toArray, List.set_cons_zero, List.set_cons_succ, i64_w, i32_w]
        rfl
      refine pure_ (i := 12) (N := some 6) (v := ?_) (a' := ?_) #[true, true, true, true, true, true, true, true, true, true, true, true, true] rfl rfl (any_of HT_.out (by kernel_rfl)) (fun _ _ _ h => h) (Or.inl ⟨by rfl, ?_⟩) ?_ ?_
      rotate_left
      · intro w'
        go_simp
        with_reducible rfl
      rotate_left
      · simp only [Act.put, List.setIfInBounds_toArray, List.set_cons_zero, List.set_cons_succ, i64_w, i32_w]
        rfl
      refine done_ (done_of HT_.out (by kernel_rfl)) ?_
      --END
      go_wp2_with fail
      go_ret
      exact ⟨_, rfl, Kd.R_lower (by simpa using HV4.out) (siz w _), bel _ _⟩
    | false =>
      have he := HE.out
      rw [if_neg (by decide)] at he
      obtain rfl : po = en := he.symm
      have q1 : po ≤ c := by omega
      have q3 : (po : Int) ≤ (n : Int) := by omega
      have HD3 := Aside0.mk hD3
      clear hD3
      go_enter Tryd.func35, Tryd.ntmps35
      go_wp2_with fail
      refine (HB.out _ (bel _ _)).mono ?_
      rintro e w1 ⟨rfl, hb1⟩
      have p1 := prev_call hb1
      clear hb1
      go_wp2_with fail
      --REG with5
      refine start_ (n := 13) (S := fun w' => w'.heap[w.heap.size]? = some (.cells (A51 a) 51 (0, 0))) (ds := []) #[false, false, false, false, false, false, false, false, false, false, false, false, false] (by kernel_rfl) rfl rfl held (fun hHeld => ?_); refine with_tabW with5.tab5 with5.bits5 (fun HT_ HW_ => ?_)
      refine pure_ (i := 0) (N := some 20) (v := ?_) (a' := ?_) #[true, false, false, false, false, false, false, false, false, false, false, false, false] rfl rfl (any_of HT_.out (by kernel_rfl)) (fun _ _ _ h => h) (Or.inl ⟨by rfl, ?_⟩) ?_ ?_
      rotate_left
      · intro w'
        go_simp
        with_reducible rfl
      rotate_left
      · simp only [Act.put, List.setIfInBounds_toArray, List.set_cons_zero, List.set_cons_succ, i64_w, i32_w]
        rfl
      refine pure_ (i := 1) (N := some 21) (v := ?_) (a' := ?_) #[true, true, false, false, false, false, false, false, false, false, false, false, false] rfl rfl (any_of HT_.out (by kernel_rfl)) (fun _ _ _ h => h) (Or.inl ⟨by rfl, ?_⟩) ?_ ?_
      rotate_left
      · intro w'
        go_simp
        with_reducible rfl
      rotate_left
      · simp only [Act.put, List.setIfInBounds_toArray, List.set_cons_zero, List.set_cons_succ, i64_w, i32_w]
        rfl
      refine pure_ (i := 2) (N := some 22) (v := ?_) (a' := ?_) #[true, true, true, false, false, false, false, false, false, false, false, false, false] rfl rfl (any_of HT_.out (by kernel_rfl)) (fun _ _ _ h => h) (Or.inl ⟨by rfl, ?_⟩) ?_ ?_
      rotate_left
      · intro w'
        go_simp
        with_reducible rfl
      rotate_left
      · simp only [Act.put, List.setIfInBounds_toArray, List.set_cons_zero, List.set_cons_succ, i64_w, i32_w]
        rfl
      refine pure_ (i := 3) (N := some 23) (v := ?_) (a' := ?_) #[true, true, true, true, false, false, false, false, false, false, false, false, false] rfl rfl (any_of HT_.out (by kernel_rfl)) (fun _ _ _ h => h) (Or.inl ⟨by rfl, ?_⟩) ?_ ?_
      rotate_left
      · intro w'
        go_simp
        with_reducible rfl
      rotate_left
      · simp only [Act.put, List.setIfInBounds_toArray, List.set_cons_zero, List.set_cons_succ, i64_w, i32_w]
        rfl
      refine pure_ (i := 7) (N := some 27) (v := ?_) (a' := ?_) #[true, true, true, true, false, false, false, true, false, false, false, false, false] rfl rfl (any_of HT_.out (by kernel_rfl)) (fun _ _ _ h => h) (Or.inl ⟨by rfl, ?_⟩) ?_ ?_
      rotate_left
      · intro w'
        go_simp
        with_reducible rfl
      rotate_left
      · simp only [Act.put, List.setIfInBounds_toArray, List.set_cons_zero, List.set_cons_succ, i64_w, i32_w]
        rfl
      refine pure_ (i := 8) (N := some 28) (v := ?_) (a' := ?_) #[true, true, true, true, false, false, false, true, true, false, false, false, false] rfl rfl (any_of HT_.out (by kernel_rfl)) (fun _ _ _ h => h) (Or.inl ⟨by rfl, ?_⟩) ?_ ?_
      rotate_left
      · intro w'
        go_simp
        with_reducible rfl
      rotate_left
      · simp only [Act.put, List.setIfInBounds_toArray, List.set_cons_zero, List.set_cons_succ, i64_w, i32_w]
        rfl
      refine pure_ (i := 9) (N := some 29) (v := ?_) (a' := ?_) #[true, true, true, true, false, false, false, true, true, true, false, false, false] rfl rfl (any_of HT_.out (by kernel_rfl)) (fun _ _ _ h => h) (Or.inl ⟨by rfl, ?_⟩) ?_ ?_
      rotate_left
      · intro w'
        go_simp
        with_reducible rfl
      rotate_left
      · simp only [Act.put, List.setIfInBounds_toArray, List.set_cons_zero, List.set_cons_succ, i64_w, i32_w]
        rfl
      refine take_ (i := 4) (N := some 24) (v := ?_) (a' := ?_) #[true, true, true, true, true, false, false, true, true, true, false, false, false] rfl rfl (take_ofW HT_.out HW_.out (by kernel_rfl)) (fun _ _ _ h => h) (Or.inl ⟨by rfl, ?_⟩) hHeld ?_ ?_
      rotate_left
      · rintro w' s0
        have i0 : Go.Proofs.YtjllbkeobibnkaaDoorK.Holds w' w.heap.size (.cells (A51 a) 51) := ⟨s0⟩
        go_simp
        with_reducible rfl
      rotate_left
      · simp only [Act.put, List.setIfInBounds_toArray, List.set_cons_zero, List.set_cons_succ, i64_w, i32_w]
        rfl
      refine pure_ (i := 5) (N := some 25) (v := ?_) (a' := ?_) #[true, true, true, true, true, true, false, true, true, true, false, false, false] rfl rfl (any_of HT_.out (by kernel_rfl)) (fun _ _ _ h => h) (Or.inl ⟨by rfl, ?_⟩) ?_ ?_
      rotate_left
      · intro w'
        go_simp
        with_reducible rfl
      rotate_left
      · simp only [Act.put, List.setIfInBounds_toArray, List.set_cons_zero, List.set_cons_succ, i64_w, i32_w]
        rfl
      refine one_ (i := 6) (N := some 26) #[true, true, true, true, true, true, true, true, true, true, false, false, false] rfl rfl (one_of HT_.out (by kernel_rfl)) (by decide) (fun K hK => ?_)
      refine new_step (ob := .cells (A58 ⟨p, a⟩) 58) (by rfl) rfl (by go_simp; rfl) ?_
      intro w2 p2 h2
      refine hK.out _ _ held (fun hHeld => ?_)
      clear hK K
      refine norm_ (a' := ?_) ?_ ?_
      rotate_left
      · show Act.put _ (some 26) _ = _
        simp only [Act.put, List.setIfInBounds_toArray, List.set_cons_zero, List.set_cons_succ, i64_w, i32_w]
        rfl
      refine one_ (i := 10) (N := some 30) #[true, true, true, true, true, true, true, true, true, true, true, false, false] rfl rfl (one_of HT_.out (by kernel_rfl)) (by decide) (fun K hK => ?_)
      refine new_step (ob := .cells #[_, _, _] 22) (by rfl) rfl (by go_simp; first | rfl | exact ⟨rfl, rfl⟩) ?_
      intro w3 p3 h3
      refine hK.out _ _ held (fun hHeld => ?_)
      clear hK K
      refine norm_ (a' := ?_) ?_ ?_
      rotate_left
      · show Act.put _ (some 30) _ = _
        simp only [Act.put, List.setIfInBounds_toArray, List.set_cons_zero, List.set_cons_succ, i64_w, i32_w]
        rfl
      refine one_ (i := 11) (N := some 31) #[true, true, true, true, true, true, true, true, true, true, true, true, false] rfl rfl (one_of HT_.out (by kernel_rfl)) (by decide) (fun K hK => ?_)
      refine goes_ Tryd.func62 (by kernel_rfl) rfl #[.slice (some ⟨w2.heap.size, 0, none⟩) 3 3] (by rfl) rfl rfl (by (try simp only [List.map_toArray, List.map_cons, List.map_nil]); first | done | rfl) ?_
      refine (HCC.out _ _ x [⟨p, a⟩] z _ _ _ _ _ _ _ _ _ ?e1 ?e2 ?e3 held ?h1 ?h2 ?h3 hle).mono ?_
      case e1 => omega
      case e2 => rfl
      case e3 => omega
      case h1 => exact HT.out _ (bel _ _)
      case h2 => exact Kd.C_below (one58' _ (held (W := w2) (g := w1.drew.heap.size))) (bel _ _)
      case h3 => exact HD3.out _ (bel _ _)
      rintro e4 w4 ⟨v4, rfl, hv, hb⟩
      have p4 := prev_call hb
      have HV4 := Aside0.mk hv
      clear hb hv
      refine ⟨_, rfl, ?_⟩
      refine hK.out _ _ held (fun hHeld => ?_)
      clear hK K
      refine norm_ (a' := ?_) ?_ ?_
      rotate_left
      · show Act.put _ (some 31) _ = _
        simp only [Act.put, List.setIfInBounds_toArray, List.set_cons_zero, List.set_cons_succ, i64_w, i32_w]
        rfl
      refine pure_ (i := 12) (N := some 6) (v := ?_) (a' := ?_) #[true, true, true, true, true, true, true, true, true, true, true, true, true] rfl rfl (any_of HT_.out (by kernel_rfl)) (fun _ _ _ h => h) (Or.inl ⟨by rfl, ?_⟩) ?_ ?_
      rotate_left
      · intro w'
        go_simp
        with_reducible rfl
      rotate_left
      · simp only [Act.put, List.setIfInBounds_toArray, List.set_cons_zero, List.set_cons_succ, i64_w, i32_w]
        rfl
      refine done_ (done_of HT_.out (by kernel_rfl)) ?_
      --END
      go_wp2_with fail
      go_ret
      exact ⟨_, rfl, Kd.R_lower (by simpa using HV4.out) (siz w _), bel _ _⟩
  · have HD3 := Aside0.mk hD3
    clear hD3 HE
    go_enter Tryd.func35, Tryd.ntmps35
    go_wp2_with fail
    refine (HB.out _ (bel _ _)).mono ?_
    rintro e w1 ⟨rfl, hb1⟩
    have p1 := prev_call hb1
    clear hb1
    go_wp2_with fail
    --REG with5
    refine start_ (n := 13) (S := fun w' => w'.heap[w.heap.size]? = some (.cells (A51 a) 51 (0, 0))) (ds := []) #[false, false, false, false, false, false, false, false, false, false, false, false, false] (by kernel_rfl) rfl rfl held (fun hHeld => ?_); refine with_tabW with5.tab5 with5.bits5 (fun HT_ HW_ => ?_)
    refine pure_ (i := 0) (N := some 20) (v := ?_) (a' := ?_) #[true, false, false, false, false, false, false, false, false, false, false, false, false] rfl rfl (any_of HT_.out (by kernel_rfl)) (fun _ _ _ h => h) (Or.inl ⟨by rfl, ?_⟩) ?_ ?_
    rotate_left
    · intro w'
      go_simp
      with_reducible rfl
    rotate_left
    · simp only [Act.put, List.setIfInBounds_toArray, List.set_cons_zero, List.set_cons_succ, i64_w, i32_w]
      rfl
    refine pure_ (i := 1) (N := some 21) (v := ?_) (a' := ?_) #[true, true, false, false, false, false, false, false, false, false, false, false, false] rfl rfl (any_of HT_.out (by kernel_rfl)) (fun _ _ _ h => h) (Or.inl ⟨by rfl, ?_⟩) ?_ ?_
    rotate_left
    · intro w'
      go_simp
      with_reducible rfl
    rotate_left
    · simp only [Act.put, List.setIfInBounds_toArray, List.set_cons_zero, List.set_cons_succ, i64_w, i32_w]
      rfl
    refine pure_ (i := 2) (N := some 22) (v := ?_) (a' := ?_) #[true, true, true, false, false, false, false, false, false, false, false, false, false] rfl rfl (any_of HT_.out (by kernel_rfl)) (fun _ _ _ h => h) (Or.inl ⟨by rfl, ?_⟩) ?_ ?_
    rotate_left
    · intro w'
      go_simp
      with_reducible rfl
    rotate_left
    · simp only [Act.put, List.setIfInBounds_toArray, List.set_cons_zero, List.set_cons_succ, i64_w, i32_w]
      rfl
    refine pure_ (i := 3) (N := some 23) (v := ?_) (a' := ?_) #[true, true, true, true, false, false, false, false, false, false, false, false, false] rfl rfl (any_of HT_.out (by kernel_rfl)) (fun _ _ _ h => h) (Or.inl ⟨by rfl, ?_⟩) ?_ ?_
    rotate_left
    · intro w'
      go_simp
      with_reducible rfl
    rotate_left
    · simp only [Act.put, List.setIfInBounds_toArray, List.set_cons_zero, List.set_cons_succ, i64_w, i32_w]
      rfl
    refine pure_ (i := 7) (N := some 27) (v := ?_) (a' := ?_) #[true, true, true, true, false, false, false, true, false, false, false, false, false] rfl rfl (any_of HT_.out (by kernel_rfl)) (fun _ _ _ h => h) (Or.inl ⟨by rfl, ?_⟩) ?_ ?_
    rotate_left
    · intro w'
      go_simp
      with_reducible rfl
    rotate_left
    · simp only [Act.put, List.setIfInBounds_toArray, List.set_cons_zero, List.set_cons_succ, i64_w, i32_w]
      rfl
    refine pure_ (i := 8) (N := some 28) (v := ?_) (a' := ?_) #[true, true, true, true, false, false, false, true, true, false, false, false, false] rfl rfl (any_of HT_.out (by kernel_rfl)) (fun _ _ _ h => h) (Or.inl ⟨by rfl, ?_⟩) ?_ ?_
    rotate_left
    · intro w'
      go_simp
      with_reducible rfl
    rotate_left
    · simp only [Act.put, List.setIfInBounds_toArray, List.set_cons_zero, List.set_cons_succ, i64_w, i32_w]
      rfl
    refine pure_ (i := 9) (N := some 29) (v := ?_) (a' := ?_) #[true, true, true, true, false, false, false, true, true, true, false, false, false] rfl rfl (any_of HT_.out (by kernel_rfl)) (fun _ _ _ h => h) (Or.inl ⟨by rfl, ?_⟩) ?_ ?_
    rotate_left
    · intro w'
      go_simp
      with_reducible rfl
    rotate_left
    · simp only [Act.put, List.setIfInBounds_toArray, List.set_cons_zero, List.set_cons_succ, i64_w, i32_w]
      rfl
    refine take_ (i := 4) (N := some 24) (v := ?_) (a' := ?_) #[true, true, true, true, true, false, false, true, true, true, false, false, false] rfl rfl (take_ofW HT_.out HW_.out (by kernel_rfl)) (fun _ _ _ h => h) (Or.inl ⟨by rfl, ?_⟩) hHeld ?_ ?_
    rotate_left
    · rintro w' s0
      have i0 : Go.Proofs.YtjllbkeobibnkaaDoorK.Holds w' w.heap.size (.cells (A51 a) 51) := ⟨s0⟩
      go_simp
      with_reducible rfl
    rotate_left
    · simp only [Act.put, List.setIfInBounds_toArray, List.set_cons_zero, List.set_cons_succ, i64_w, i32_w]
      rfl
    refine pure_ (i := 5) (N := some 25) (v := ?_) (a' := ?_) #[true, true, true, true, true, true, false, true, true, true, false, false, false] rfl rfl (any_of HT_.out (by kernel_rfl)) (fun _ _ _ h => h) (Or.inl ⟨by rfl, ?_⟩) ?_ ?_
    rotate_left
    · intro w'
      go_simp
      with_reducible rfl
    rotate_left
    · simp only [Act.put, List.setIfInBounds_toArray, List.set_cons_zero, List.set_cons_succ, i64_w, i32_w]
      rfl
    refine one_ (i := 6) (N := some 26) #[true, true, true, true, true, true, true, true, true, true, false, false, false] rfl rfl (one_of HT_.out (by kernel_rfl)) (by decide) (fun K hK => ?_)
    refine new_step (ob := .cells (A58 ⟨p, a⟩) 58) (by rfl) rfl (by go_simp; rfl) ?_
    intro w2 p2 h2
    refine hK.out _ _ held (fun hHeld => ?_)
    clear hK K
    refine norm_ (a' := ?_) ?_ ?_
    rotate_left
    · show Act.put _ (some 26) _ = _
      simp only [Act.put, List.setIfInBounds_toArray, List.set_cons_zero, List.set_cons_succ, i64_w, i32_w]
      rfl
    refine one_ (i := 10) (N := some 30) #[true, true, true, true, true, true, true, true, true, true, true, false, false] rfl rfl (one_of HT_.out (by kernel_rfl)) (by decide) (fun K hK => ?_)
    refine new_step (ob := .cells #[_, _, _] 22) (by rfl) rfl (by go_simp; first | rfl | exact ⟨rfl, rfl⟩) ?_
    intro w3 p3 h3
    refine hK.out _ _ held (fun hHeld => ?_)
    clear hK K
    refine norm_ (a' := ?_) ?_ ?_
    rotate_left
    · show Act.put _ (some 30) _ = _
      simp only [Act.put, List.setIfInBounds_toArray, List.set_cons_zero, List.set_cons_succ, i64_w, i32_w]
      rfl
    refine one_ (i := 11) (N := some 31) #[true, true, true, true, true, true, true, true, true, true, true, true, false] rfl rfl (one_of HT_.out (by kernel_rfl)) (by decide) (fun K hK => ?_)
    refine goes_ Tryd.func62 (by kernel_rfl) rfl #[.slice (some ⟨w2.heap.size, 0, none⟩) 3 3] (by rfl) rfl rfl (by (try simp only [List.map_toArray, List.map_cons, List.map_nil]); first | done | rfl) ?_
    refine (HCC.out _ _ x [⟨p, a⟩] z _ _ _ _ _ _ _ _ _ ?e1 ?e2 ?e3 held ?h1 ?h2 ?h3 hle).mono ?_
    case e1 => omega
    case e2 => rfl
    case e3 => omega
    case h1 => exact HT.out _ (bel _ _)
    case h2 => exact Kd.C_below (one58' _ (held (W := w2) (g := w1.drew.heap.size))) (bel _ _)
    case h3 => exact HD3.out _ (bel _ _)
    rintro e4 w4 ⟨v4, rfl, hv, hb⟩
    have p4 := prev_call hb
    have HV4 := Aside0.mk hv
    clear hb hv
    refine ⟨_, rfl, ?_⟩
    refine hK.out _ _ held (fun hHeld => ?_)
    clear hK K
    refine norm_ (a' := ?_) ?_ ?_
    rotate_left
    · show Act.put _ (some 31) _ = _
      simp only [Act.put, List.setIfInBounds_toArray, List.set_cons_zero, List.set_cons_succ, i64_w, i32_w]
      rfl
    refine pure_ (i := 12) (N := some 6) (v := ?_) (a' := ?_) #[true, true, true, true, true, true, true, true, true, true, true, true, true] rfl rfl (any_of HT_.out (by kernel_rfl)) (fun _ _ _ h => h) (Or.inl ⟨by rfl, ?_⟩) ?_ ?_
    rotate_left
    · intro w'
      go_simp
      with_reducible rfl
    rotate_left
    · simp only [Act.put, List.setIfInBounds_toArray, List.set_cons_zero, List.set_cons_succ, i64_w, i32_w]
      rfl
    refine done_ (done_of HT_.out (by kernel_rfl)) ?_
    --END
    go_wp2_with fail
    go_ret
    exact ⟨_, rfl, Kd.R_lower (by simpa using HV4.out) (siz w _), bel _ _⟩
end Go.Proofs.YtjllbkeobibnkaaDoor.Q

namespace Go.Proofs.YtjllbkeobibnkaaDoor.Q
open Go Go.Proofs Go.Shelf Go.RowKit Go.Lib Go.Proofs.YtjllbkeobibnkaaDoorK Go.Proofs.YtjllbkeobibnkaaDoorW.PrintWords Go.Proofs.YtjllbkeobibnkaaDoorW.PrintLast Go.Proofs.YtjllbkeobibnkaaDoorW.PrintMore
set_option linter.unusedSimpArgs false
set_option linter.unusedVariables false
/-! ### What is known of a path is written into a row of the call's own -/
instance : Inhabited S58 := ⟨z58⟩
theorem row_open {W : World} {base g n cap : Nat} {xs : List S58} (h : Kd.R k58 58 W base (fun _ => True) (.slice (some ⟨g, 0, none⟩) n cap) xs) :
    n = xs.length ∧ base ≤ g ∧ n ≤ cap ∧ cap ≤ maxLen ∧ ∃ cur, W.heap[g]? = some (.cells cur 58 (0, 0)) ∧ cur.size = cap * 35 ∧ ∀ t, t < n * 35 → cur[t]? = (L58 xs[t / 35]!)[t % 35]? := by
  obtain ⟨_, inner, ⟨hlen, hor⟩, hrep⟩ := h
  rcases hor with ⟨he, _⟩ | ⟨g', cap', cur, he, hb, hg, hnc, hcm, hcs, htk⟩
  · exact absurd he (by simp)
  · simp only [Value.slice.injEq, Option.some.injEq, Addr.mk.injEq, and_true] at he
    obtain ⟨rfl, rfl, rfl⟩ := he
    refine ⟨rfl, hb, hnc, hcm, cur, hg, hcs, fun t ht => ?_⟩
    have h5 : t / 35 < xs.length := by omega
    have hm : t % 35 < 35 := Nat.mod_lt _ (by decide)
    have hp := hrep.2 (t / 35) xs[t / 35] (List.getElem?_eq_getElem h5)
    have hk := (show _ = L58 _ from hp)
    have e1 : cur[t]? = inner[t]? := by
      rw [← htk, List.getElem?_take]
      have : t < xs.length * k58.sz := ht
      rw [if_pos this]
      simp
    have e2 : inner[t]? = ((inner.drop (t / 35 * 35)).take 35)[t % 35]? := by
      rw [List.getElem?_take, if_pos hm, List.getElem?_drop]
      congr 1
      omega
    rw [e1, e2]
    have e3 : (inner.drop (t / 35 * 35)).take 35 = L58 xs[t / 35] := hk
    rw [e3, getElem!_pos xs _ h5]
theorem row_mk {W : World} {base g n cap : Nat} {ys : List S58} {cur : Array Value} (hb : base ≤ g) (hn : n = ys.length) (hnc : n ≤ cap) (hcm : cap ≤ maxLen) (hg : W.heap[g]? = some (.cells cur 58 (0, 0))) (hcs : cur.size = cap * 35)
    (hc : ∀ t, t < n * 35 → cur[t]? = (L58 ys[t / 35]!)[t % 35]?) : Kd.R k58 58 W base (fun _ => True) (.slice (some ⟨g, 0, none⟩) n cap) ys := by
  have htl : (cur.toList.take (n * 35)).length = n * 35 := by
    rw [List.length_take, Array.length_toList, hcs]
    have := Nat.mul_le_mul_right 35 hnc
    omega
  refine ⟨fun _ _ => trivial, ?_⟩
  refine ⟨cur.toList.take (n * 35), ⟨by rw [htl, hn]; rfl, .inr ⟨g, cap, cur, by rw [hn], hb, hg, by rw [← hn]; exact hnc, hcm, hcs, by rw [hn]; rfl⟩⟩, by rw [htl, hn]; rfl, ?_⟩
  intro j p hp
  have hj : j < n := by
    have := (List.getElem?_eq_some_iff.1 hp).1
    omega
  have e : ((cur.toList.take (n * 35)).drop (j * k58.sz)).take k58.sz = L58 p := by
    apply List.ext_getElem?
    intro i
    show (((cur.toList.take (n * 35)).drop (j * 35)).take 35)[i]? = _
    rw [List.getElem?_take]
    by_cases hi : i < 35
    · rw [if_pos hi, List.getElem?_drop, List.getElem?_take, if_pos (by omega), Array.getElem?_toList, hc _ (by omega)]
      have e1 : (j * 35 + i) / 35 = j := by omega
      have e2 : (j * 35 + i) % 35 = i := by omega
      have e3 : ys[j]! = p := by
        have hjl : j < ys.length := by omega
        rw [getElem!_pos ys j hjl]
        rw [List.getElem?_eq_getElem hjl] at hp
        exact Option.some.inj hp
      rw [e1, e2, e3]
    · rw [if_neg hi, List.getElem?_eq_none (by rw [L58_len]; omega)]
  rw [e]
  exact (rfl : L58 p = L58 p)
theorem setCells_block (g : Nat) (t : TypeId) : ∀ (vs : List Value) (o : Nat) (W : World) (cur : Array Value), W.heap[g]? = some (.cells cur t (0, 0)) → ∃ cur', (W.setCells g o vs).heap[g]? = some (.cells cur' t (0, 0)) ∧ cur'.size = cur.size ∧ (o + vs.length ≤ cur.size → ∀ k, cur'[k]? = if o ≤ k ∧ k < o + vs.length then vs[k - o]? else cur[k]?)
  | [], o, W, cur, h => ⟨cur, h, rfl, fun _ k => by rw [if_neg (by simp only [List.length_nil]; omega)]⟩
  | v :: vs, o, W, cur, h => by
    obtain ⟨cur', h1, h2, h3⟩ := setCells_block g t vs (o + 1) (W.setCell ⟨g, o, none⟩ v) (cur.setIfInBounds o v) (blk_set h o v)
    rw [Array.size_setIfInBounds] at h2 h3
    refine ⟨cur', h1, h2, fun hsz k => ?_⟩
    simp only [List.length_cons] at hsz ⊢
    rw [h3 (by omega) k]
    by_cases hk : k = o
    · subst hk
      rw [if_neg (by omega), if_pos ⟨Nat.le_refl _, by omega⟩, Nat.sub_self, Array.getElem?_setIfInBounds_self_of_lt (by omega)]
      rfl
    · rw [Array.getElem?_setIfInBounds_ne (fun e => hk e.symm)]
      by_cases h4 : o + 1 ≤ k ∧ k < o + 1 + vs.length
      · rw [if_pos h4, if_pos ⟨by omega, by omega⟩, show k - o = (k - (o + 1)) + 1 by omega]
        rfl
      · rw [if_neg h4, if_neg (by omega)]
theorem setCells_grown (g : Nat) : ∀ (vs : List Value) (o : Nat) (W : World), W.grownBy (W.setCells g o vs) (some g)
  | [], o, W => ⟨rfl, rfl, rfl, Nat.le_refl _, fun _ _ _ => rfl⟩
  | v :: vs, o, W => by
    have h1 := setCells_grown g vs (o + 1) (W.setCell ⟨g, o, none⟩ v)
    have hs : (W.setCell ⟨g, o, none⟩ v).heap.size = W.heap.size := by simp [World.setCell]
    refine ⟨h1.os, h1.tape, h1.output, by rw [← hs]; exact h1.size, fun k hk hne => ?_⟩
    refine (h1.block k (by rw [hs]; exact hk) hne).trans (Below.heap_setCell W ⟨g, o, none⟩ v k (fun e => hne (by rw [e])))
theorem row_set {W : World} {base g n cap : Nat} {xs : List S58} (h : Kd.R k58 58 W base (fun _ => True) (.slice (some ⟨g, 0, none⟩) n cap) xs) (i : Nat) (hi : i < n) (x : S58) :
    Kd.R k58 58 (W.setCells g (i * 35) (L58 x)) base (fun _ => True) (.slice (some ⟨g, 0, none⟩) n cap) (xs.set i x) ∧ W.grownBy (W.setCells g (i * 35) (L58 x)) (some g) := by
  obtain ⟨hn, hb, hnc, hcm, cur, hg, hcs, hc⟩ := row_open h
  obtain ⟨cur', h1, h2, h3⟩ := setCells_block g 58 (L58 x) (i * 35) W cur hg
  have h4 := h3 (by rw [L58_len, hcs]; omega)
  rw [L58_len] at h4
  refine ⟨row_mk hb (by rw [List.length_set]; exact hn) hnc hcm h1 (by rw [h2, hcs]) (fun t ht => ?_), setCells_grown g _ _ W⟩
  rw [h4 t]
  have h5 : t / 35 < xs.length := by omega
  have h6 : t / 35 < (xs.set i x).length := by rw [List.length_set]; exact h5
  rw [getElem!_pos (xs.set i x) (t / 35) h6, List.getElem_set]
  by_cases hr : i * 35 ≤ t ∧ t < i * 35 + 35
  · rw [if_pos hr, if_pos (by omega), show t - i * 35 = t % 35 by omega]
  · rw [if_neg hr, if_neg (by omega), hc t ht, getElem!_pos xs (t / 35) h5]
theorem row_there {W : World} {base g n cap : Nat} {xs : List S58} (h : Kd.R k58 58 W base (fun _ => True) (.slice (some ⟨g, 0, none⟩) n cap) xs) (i : Nat) (hi : i < n) : W.there g (i * 35) 35 := by
  obtain ⟨hn, hb, hnc, hcm, cur, hg, hcs, hc⟩ := row_open h
  intro j hj
  refine ⟨?_, blk_frozen hg _⟩
  rw [blk_cell hg, Array.getElem?_eq_getElem (by omega)]
  rfl
theorem row_range {W : World} {base g n cap : Nat} {xs : List S58} (h : Kd.R k58 58 W base (fun _ => True) (.slice (some ⟨g, 0, none⟩) n cap) xs) (i : Nat) (hi : i < xs.length) : W.rangeAt g (i * 35) (L58 xs[i]) := by
  obtain ⟨hn, hb, hnc, hcm, cur, hg, hcs, hc⟩ := row_open h
  intro j v hj
  have h5 : j < 35 := by have := (List.getElem?_eq_some_iff.1 hj).1; rwa [L58_len] at this
  rw [blk_cell hg, hc _ (by omega), show (i * 35 + j) / 35 = i by omega, show (i * 35 + j) % 35 = j by omega, getElem!_pos xs i hi]
  exact hj
theorem ad_at {W : World} {g i : Nat} {ad : Addr} {cs : List Value} (had : ad = ⟨g, 0, none⟩) (h : W.rangeAt g i cs) : At W (ad.add i) cs := fun j u hj => by
  rw [had, Go.Proofs.YtjllbkeobibnkaaDoorK.add_at, Go.Proofs.YtjllbkeobibnkaaDoorK.add_at, Nat.zero_add]
  exact h j u hj
theorem store_cand {op : Oper} {a : Act} {W : World} {K : Act → World → Prop} {Q : Exit → Act → World → Prop} (x y : Operand) (ho : op.op = .store 58 x y) {base g n cap : Nat} {ys : List S58} (h : Kd.R k58 58 W base (fun _ => True) (.slice (some ⟨g, 0, none⟩) n cap) ys) (i : Nat) (hi : i < n) (z : S58) {ad : Addr} (had : ad = ⟨g, 0, none⟩)
    (hx : a.eval x = .pointer (some (ad.add (i * 35)))) (hy : a.eval y = .agg (A58 z)) (hK : ∀ W1, Kd.R k58 58 W1 base (fun _ => True) (.slice (some ⟨g, 0, none⟩) n cap) (ys.set i z) → W.grownBy W1 (some g) → K (a.put op.dst undef) W1) : op.wp Tryd.prog a W K Q := by
  obtain ⟨h1, h2⟩ := row_set h i hi z
  refine wp_store_mid 58 x y ho g (i * 35) (A58 z) ?_ hy (by rw [A58_size]; exact row_there h i hi) (by rw [A58_size]; exact info58s) (by rw [← Array.all_toList]; exact A58_all z) (hK _ h1 h2)
  rw [hx, had, Go.Proofs.YtjllbkeobibnkaaDoorK.add_at, Nat.zero_add]
end Go.Proofs.YtjllbkeobibnkaaDoor.Q
