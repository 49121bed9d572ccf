/- Parts of the proof: Q17, PE, HD5, PD, PS. -/
import Derived.Test.YtjaneipklpgnlaaZA1
import Derived.WalkSpells
import Derived.WalkLawsBesides
namespace Go.Proofs.Ytjaneipklpgnlaa.Q
open Go.RowKit Go.Proofs.YtjaneipklpgnlaaW.PrintWords Go.Proofs.YtjaneipklpgnlaaW.PrintLast Go.Proofs.YtjaneipklpgnlaaW.PrintMore Go.Proofs.YtjaneipklpgnlaaK
attribute [local go_sem] max2_int min2_int max_two min_two max_three min_three max_four min_four   -- for this text's walks alone
attribute [local go_sem ↓] Go.Proofs.YtjaneipklpgnlaaK.isSome_setCell
set_option linter.unusedVariables false
set_option linter.unusedSimpArgs false

/-! ### aquiferref04_Encode: function 31 -/
mutual
def aquiferref04_Encode.l0 : Nat → List (S84) → List Int → Int → Option (ByteArray × Int)
  | 0, _, _, _ => none
  | k + 1, x0, x4, x5 => if x5 < (x0.length : Int) then (if 0 ≤ x5 then (if ((rd_T84 x0 x5).f0) < 1 then (aquiferref04_Encode.j1 k x0 x4 x5 true ((rd_T84 x0 x5).f0) ((rd_T84 x0 x5).f1) ((rd_T84 x0 x5).f2) ((rd_T84 x0 x5).f3)) else (if ((rd_T84 x0 x5).f0) > 63 then (aquiferref04_Encode.j1 k x0 x4 x5 true ((rd_T84 x0 x5).f0) ((rd_T84 x0 x5).f1) ((rd_T84 x0 x5).f2) ((rd_T84 x0 x5).f3)) else (if ((rd_T84 x0 x5).f1) < 0 then (aquiferref04_Encode.j1 k x0 x4 x5 true ((rd_T84 x0 x5).f0) ((rd_T84 x0 x5).f1) ((rd_T84 x0 x5).f2) ((rd_T84 x0 x5).f3)) else (if ((rd_T84 x0 x5).f1) > 1 then (aquiferref04_Encode.j1 k x0 x4 x5 true ((rd_T84 x0 x5).f0) ((rd_T84 x0 x5).f1) ((rd_T84 x0 x5).f2) ((rd_T84 x0 x5).f3)) else (if ((rd_T84 x0 x5).f2) < 0 then (aquiferref04_Encode.j1 k x0 x4 x5 true ((rd_T84 x0 x5).f0) ((rd_T84 x0 x5).f1) ((rd_T84 x0 x5).f2) ((rd_T84 x0 x5).f3)) else (if ((rd_T84 x0 x5).f2) > 4611686018427387904 then (aquiferref04_Encode.j1 k x0 x4 x5 true ((rd_T84 x0 x5).f0) ((rd_T84 x0 x5).f1) ((rd_T84 x0 x5).f2) ((rd_T84 x0 x5).f3)) else (if ((rd_T84 x0 x5).f1) = 0 then (if ((rd_T84 x0 x5).f3).toList = ([] : List UInt8) then (if ((rd_T84 x0 x5).f1) = 1 then (aquiferref04_Encode.j1 k x0 x4 x5 (((rd_T84 x0 x5).f2) != 0) ((rd_T84 x0 x5).f0) ((rd_T84 x0 x5).f1) ((rd_T84 x0 x5).f2) ((rd_T84 x0 x5).f3)) else (aquiferref04_Encode.j1 k x0 x4 x5 false ((rd_T84 x0 x5).f0) ((rd_T84 x0 x5).f1) ((rd_T84 x0 x5).f2) ((rd_T84 x0 x5).f3))) else (aquiferref04_Encode.j1 k x0 x4 x5 true ((rd_T84 x0 x5).f0) ((rd_T84 x0 x5).f1) ((rd_T84 x0 x5).f2) ((rd_T84 x0 x5).f3))) else (if ((rd_T84 x0 x5).f1) = 1 then (aquiferref04_Encode.j1 k x0 x4 x5 (((rd_T84 x0 x5).f2) != 0) ((rd_T84 x0 x5).f0) ((rd_T84 x0 x5).f1) ((rd_T84 x0 x5).f2) ((rd_T84 x0 x5).f3)) else (aquiferref04_Encode.j1 k x0 x4 x5 false ((rd_T84 x0 x5).f0) ((rd_T84 x0 x5).f1) ((rd_T84 x0 x5).f2) ((rd_T84 x0 x5).f3)))))))))) else (none)) else (if (x4.length : Int) > 65536 then (some ((⟨#[]⟩ : ByteArray), 3)) else (some (strOfNums x4, 0)))
def aquiferref04_Encode.j1 : Nat → List (S84) → List Int → Int → Bool → Int → Int → Int → ByteArray → Option (ByteArray × Int)
  | 0, _, _, _, _, _, _, _, _ => none
  | k + 1, x0, x4, x5, x64, x183000, x183001, x183002, x183003 => if x64 = true then (some ((⟨#[]⟩ : ByteArray), 2)) else (if (x183003.size : Int) > 4096 then (some ((⟨#[]⟩ : ByteArray), 3)) else (if x5 > 0 then (if 0 ≤ (wrap64 (x5 - 1)) then (if (wrap64 (x5 - 1)) < (x0.length : Int) then (if x183000 < ((rd_T84 x0 (wrap64 (x5 - 1))).f0) then (some ((⟨#[]⟩ : ByteArray), 9)) else ((aquiferref04_bytes.f k x183000 x183001 x183002 x183003).bind fun t184 => (if x4.length + t184.length < 140737488355328 then (aquiferref04_Encode.l0 k x0 (x4 ++ t184) (wrap64 (x5 + 1))) else (none)))) else (none)) else (none)) else ((aquiferref04_bytes.f k x183000 x183001 x183002 x183003).bind fun t190 => (if x4.length + t190.length < 140737488355328 then (aquiferref04_Encode.l0 k x0 (x4 ++ t190) (wrap64 (x5 + 1))) else (none)))))
end
def aquiferref04_Encode.f (k : Nat) (l0 : List (S84)) : Option (ByteArray × Int) := aquiferref04_Encode.l0 k l0 ([] : List Int) 0
theorem aquiferref04_Encode.mono_l : ∀ k, (∀ y0 y1 y2, LeO (aquiferref04_Encode.l0 k y0 y1 y2) (aquiferref04_Encode.l0 (k + 1) y0 y1 y2)) ∧ (∀ y0 y1 y2 y3 y4 y5 y6 y7, LeO (aquiferref04_Encode.j1 k y0 y1 y2 y3 y4 y5 y6 y7) (aquiferref04_Encode.j1 (k + 1) y0 y1 y2 y3 y4 y5 y6 y7))
  | 0 => ⟨fun _ _ _ r h => by simp [aquiferref04_Encode.l0] at h, fun _ _ _ _ _ _ _ _ r h => by simp [aquiferref04_Encode.j1] at h⟩
  | k + 1 => by
    obtain ⟨ih0, ih1⟩ := aquiferref04_Encode.mono_l k
    refine ⟨?_, ?_⟩
    · intro y0 y1 y2
      unfold aquiferref04_Encode.l0
      repeat' first
      | (with_reducible exact ih0 _ _ _)
      | (with_reducible exact ih1 _ _ _ _ _ _ _ _)
      | (with_reducible exact aquiferref04_bytes.mono _ _ _ _ _)
      | (with_reducible exact LeO.refl _)
      | (with_reducible exact LeO.none _)
      | (with_reducible refine LeO.ite ?_ ?_)
      | (with_reducible refine LeO.bind ?_ (fun _ => ?_))
      | exact ih0 _ _ _
      | exact ih1 _ _ _ _ _ _ _ _
      | exact aquiferref04_bytes.mono _ _ _ _ _
      | exact LeO.none _
      | refine LeO.ite ?_ ?_
      | refine LeO.bind ?_ (fun _ => ?_)
    · intro y0 y1 y2 y3 y4 y5 y6 y7
      unfold aquiferref04_Encode.j1
      repeat' first
      | (with_reducible exact ih0 _ _ _)
      | (with_reducible exact ih1 _ _ _ _ _ _ _ _)
      | (with_reducible exact aquiferref04_bytes.mono _ _ _ _ _)
      | (with_reducible exact LeO.refl _)
      | (with_reducible exact LeO.none _)
      | (with_reducible refine LeO.ite ?_ ?_)
      | (with_reducible refine LeO.bind ?_ (fun _ => ?_))
      | exact ih0 _ _ _
      | exact ih1 _ _ _ _ _ _ _ _
      | exact aquiferref04_bytes.mono _ _ _ _ _
      | exact LeO.none _
      | refine LeO.ite ?_ ?_
      | refine LeO.bind ?_ (fun _ => ?_)
theorem aquiferref04_Encode.mono : ∀ a0 k, LeO (aquiferref04_Encode.f k a0) (aquiferref04_Encode.f (k + 1) a0) := by
  intro a0 k
  obtain ⟨ih0, ih1⟩ := aquiferref04_Encode.mono_l k
  unfold aquiferref04_Encode.f
  repeat' first
      | (with_reducible exact ih0 _ _ _)
      | (with_reducible exact ih1 _ _ _ _ _ _ _ _)
      | (with_reducible exact aquiferref04_bytes.mono _ _ _ _ _)
      | (with_reducible exact LeO.refl _)
      | (with_reducible exact LeO.none _)
      | (with_reducible refine LeO.ite ?_ ?_)
      | (with_reducible refine LeO.bind ?_ (fun _ => ?_))
      | exact ih0 _ _ _
      | exact ih1 _ _ _ _ _ _ _ _
      | exact aquiferref04_bytes.mono _ _ _ _ _
      | exact LeO.none _
      | refine LeO.ite ?_ ?_
      | refine LeO.bind ?_ (fun _ => ?_)
set_option maxHeartbeats 8000000 in
set_option maxRecDepth 100000 in
theorem aquiferref04_Encode.calls (k : Nat) (A0 : Option Addr) (c0 : Nat) (l0 : List (S84)) (r1 : ByteArray) (r2 : Int) (w : World) (hr0 : Kd.C k84 w A0 l0.length l0) (hc0 : l0.length ≤ c0) (h : aquiferref04_Encode.f k l0 = some (r1, r2)) :
    Calls Try.prog 31 #[.slice A0 l0.length c0] w fun e w' => e = .returned (.tuple #[.string r1, .int .i64 r2]) ∧ Below w.heap.size w w' := by
  have hu84 := Try.underlying84
  have HR0 := Aside0.mk hr0
  have HC0 := Aside0.mk hc0
  clear hr0 hc0
  have HB := Aside0.mk (Below.refl w.heap.size w)
  have H : (aquiferref04_Encode.l0 k l0 ([] : List Int) 0) = some (r1, r2) := h
  clear h
  have H' := Aside0.mk H
  clear H
  go_enter Try.func31, Try.ntmps31
  go_wp2
  repeat (go_quiet (fail); try go_wp2)
  go_loopg [4, 5] k (fun kq v4 v5 w' => ∃ (x4_1 : List Int) (x5_1 : Int), v5 = .int .i64 x5_1 ∧ Aside0 (aquiferref04_Encode.l0 kq l0 x4_1 x5_1 = some (r1, r2)) ∧ Aside0 (kq ≤ k) ∧ Aside0 (Kd.R (Kd.int .u8) 5 w' w.heap.size (fun _ => True) v4 x4_1) ∧ Aside0 (Below w.heap.size w w'))
  case atStart => exact ⟨(([] : List Int)), (0), (by first | rfl | (simp; done) | (simp [*]; done)), H', ⟨Nat.le_refl _⟩, ⟨by first | exact Kd.R_nil _ _ _ _ _ | exact Kd.N_nil _ _ _ _ _ | exact Kd.V_nil _ _ _ _ _ | exact Kd.Q_nil _ _ _ _ _ | exact Kd.S_nil _ _ _ _ _⟩, ⟨belU HB.out⟩⟩
  case round =>
    clear H'
    obtain ⟨x4_1, x5_1, rfl, HA, HK1, HO_4, HB⟩ := hrel
    cases gk with
    | zero => exact absurd HA.out (by simp [aquiferref04_Encode.l0])
    | succ k1 =>
      have H := HA.out
      clear HA
      simp only [aquiferref04_Encode.l0] at H
      by_cases c2 : x5_1 < (l0.length : Int)
      · rw [if_pos c2] at H
        have c2b0 : decide (x5_1 < (l0.length : Int)) = true := decide_eq_true c2
        clear c2
        by_cases c3 : 0 ≤ x5_1
        · rw [if_pos c3] at H
          have c3b0 : decide (0 ≤ x5_1) = true := decide_eq_true c3
          clear c3
          have HC4 := Aside0.mk H
          clear H
          have p181 : 0 ≤ (x5_1 : Int) := of_decide_eq_true (by first | (with_reducible assumption) | assumption)
          have q181 : x5_1 < (l0.length : Int) := of_decide_eq_true (by first | (with_reducible assumption) | assumption)
          obtain ⟨ad181, e181, hx181_0, hx181_1, hx181_2, hx181_3⟩ := at_T84 HR0.out x5_1 p181 q181
          cases e181
          replace hx181_0 := (HB.out.cell (World.block_lt_of_cell? w _ hx181_0)).trans hx181_0
          replace hx181_1 := (HB.out.cell (World.block_lt_of_cell? w _ hx181_1)).trans hx181_1
          replace hx181_2 := (HB.out.cell (World.block_lt_of_cell? w _ hx181_2)).trans hx181_2
          replace hx181_3 := (HB.out.cell (World.block_lt_of_cell? w _ hx181_3)).trans hx181_3
          replace p181 := eq_true p181
          replace q181 := eq_true q181
          go_upto_region 6 with (first | ((with_reducible refine gate_dst (N := 6) rfl ?_); refine box_event ?hg (N := 6) ?hd (cs := #[.int .i64 0, .int .i64 0, .int .i64 0, .string (⟨#[]⟩ : ByteArray)]) (t := 84) ?hr ?_; (case hd => rfl); (case hg => rfl); (case hr => first | (go_simp; done) | (go_simp; rfl)); intro gb182 hg w5 hbox hb; have n0_ := Aside0.mk (Kd.R_below (RU HO_4.out) hb); have n1_ := Aside0.mk (below_step (belU HB.out) hb); have n2_ := Aside0.mk (hbox); have n3_ := Aside0.mk ((by rw [hg]; exact (sizU HB.out) : w.heap.size ≤ gb182)); have n4_ := Aside0.mk ((by rw [hg]; exact (sizU HB.out) : w.heap.size ≤ gb182)); clear HO_4; clear HB; have HO_4 := n0_; have HB := n1_; have BK182 := n2_; have GW182 := n3_; have GE182 := n4_; clear n0_ n1_ n2_ n3_ n4_; clear hb hbox hg; have hcz6_0 : w5.cell? ⟨gb182, 0, none⟩ = some (.int .i64 0) := (blk_cell BK182.out 0).trans rfl; have hcz6_1 : w5.cell? ⟨gb182, 1, none⟩ = some (.int .i64 0) := (blk_cell BK182.out 1).trans rfl; have hcz6_2 : w5.cell? ⟨gb182, 2, none⟩ = some (.int .i64 0) := (blk_cell BK182.out 2).trans rfl; have hcz6_3 : w5.cell? ⟨gb182, 3, none⟩ = some (.string (⟨#[]⟩ : ByteArray)) := (blk_cell BK182.out 3).trans rfl; have hfz6_0 := blk_frozen BK182.out 0; have hfz6_1 := blk_frozen BK182.out 1; have hfz6_2 := blk_frozen BK182.out 2; have hfz6_3 := blk_frozen BK182.out 3))
          repeat (go_quiet (first | ((with_reducible refine gate_dst (N := 6) rfl ?_); refine box_event ?hg (N := 6) ?hd (cs := #[.int .i64 0, .int .i64 0, .int .i64 0, .string (⟨#[]⟩ : ByteArray)]) (t := 84) ?hr ?_; (case hd => rfl); (case hg => rfl); (case hr => first | (go_simp; done) | (go_simp; rfl)); intro gb182 hg w5 hbox hb; have n0_ := Aside0.mk (Kd.R_below (RU HO_4.out) hb); have n1_ := Aside0.mk (below_step (belU HB.out) hb); have n2_ := Aside0.mk (hbox); have n3_ := Aside0.mk ((by rw [hg]; exact (sizU HB.out) : w.heap.size ≤ gb182)); have n4_ := Aside0.mk ((by rw [hg]; exact (sizU HB.out) : w.heap.size ≤ gb182)); clear HO_4; clear HB; have HO_4 := n0_; have HB := n1_; have BK182 := n2_; have GW182 := n3_; have GE182 := n4_; clear n0_ n1_ n2_ n3_ n4_; clear hb hbox hg; have hcz6_0 : w5.cell? ⟨gb182, 0, none⟩ = some (.int .i64 0) := (blk_cell BK182.out 0).trans rfl; have hcz6_1 : w5.cell? ⟨gb182, 1, none⟩ = some (.int .i64 0) := (blk_cell BK182.out 1).trans rfl; have hcz6_2 : w5.cell? ⟨gb182, 2, none⟩ = some (.int .i64 0) := (blk_cell BK182.out 2).trans rfl; have hcz6_3 : w5.cell? ⟨gb182, 3, none⟩ = some (.string (⟨#[]⟩ : ByteArray)) := (blk_cell BK182.out 3).trans rfl; have hfz6_0 := blk_frozen BK182.out 0; have hfz6_1 := blk_frozen BK182.out 1; have hfz6_2 := blk_frozen BK182.out 2; have hfz6_3 := blk_frozen BK182.out 3)); go_upto_region 6 with (first | ((with_reducible refine gate_dst (N := 6) rfl ?_); refine box_event ?hg (N := 6) ?hd (cs := #[.int .i64 0, .int .i64 0, .int .i64 0, .string (⟨#[]⟩ : ByteArray)]) (t := 84) ?hr ?_; (case hd => rfl); (case hg => rfl); (case hr => first | (go_simp; done) | (go_simp; rfl)); intro gb182 hg w5 hbox hb; have n0_ := Aside0.mk (Kd.R_below (RU HO_4.out) hb); have n1_ := Aside0.mk (below_step (belU HB.out) hb); have n2_ := Aside0.mk (hbox); have n3_ := Aside0.mk ((by rw [hg]; exact (sizU HB.out) : w.heap.size ≤ gb182)); have n4_ := Aside0.mk ((by rw [hg]; exact (sizU HB.out) : w.heap.size ≤ gb182)); clear HO_4; clear HB; have HO_4 := n0_; have HB := n1_; have BK182 := n2_; have GW182 := n3_; have GE182 := n4_; clear n0_ n1_ n2_ n3_ n4_; clear hb hbox hg; have hcz6_0 : w5.cell? ⟨gb182, 0, none⟩ = some (.int .i64 0) := (blk_cell BK182.out 0).trans rfl; have hcz6_1 : w5.cell? ⟨gb182, 1, none⟩ = some (.int .i64 0) := (blk_cell BK182.out 1).trans rfl; have hcz6_2 : w5.cell? ⟨gb182, 2, none⟩ = some (.int .i64 0) := (blk_cell BK182.out 2).trans rfl; have hcz6_3 : w5.cell? ⟨gb182, 3, none⟩ = some (.string (⟨#[]⟩ : ByteArray)) := (blk_cell BK182.out 3).trans rfl; have hfz6_0 := blk_frozen BK182.out 0; have hfz6_1 := blk_frozen BK182.out 1; have hfz6_2 := blk_frozen BK182.out 2; have hfz6_3 := blk_frozen BK182.out 3)))
          (try simp only [Act.put, List.setIfInBounds_toArray, List.set_cons_zero, List.set_cons_succ])
          go_cut [64] (fun v64 wc => ∃ (kq : Nat) (x64_3 : Bool), v64 = .bool x64_3 ∧ Aside0 (aquiferref04_Encode.j1 kq l0 x4_1 x5_1 x64_3 ((rd_T84 l0 x5_1).f0) ((rd_T84 l0 x5_1).f1) ((rd_T84 l0 x5_1).f2) ((rd_T84 l0 x5_1).f3) = some (r1, r2)) ∧ Aside0 (kq ≤ k1) ∧ Aside0 (Kd.R (Kd.int .u8) 5 wc w.heap.size (fun _ => True) u4 x4_1) ∧ Aside0 (wc.heap[gb182]? = some (.cells #[.int .i64 ((rd_T84 l0 x5_1).f0), .int .i64 ((rd_T84 l0 x5_1).f1), .int .i64 ((rd_T84 l0 x5_1).f2), .string ((rd_T84 l0 x5_1).f3)] 84 (0, 0))) ∧ Aside0 (Below w.heap.size w wc))
          case first =>
            have H := HC4.out
            clear HC4
            by_cases c7 : ((rd_T84 l0 x5_1).f0) < 1
            · rw [if_pos c7] at H
              have c7b0 : decide (((rd_T84 l0 x5_1).f0) < 1) = true := decide_eq_true c7
              clear c7
              (first | rw [c7b0] | (simp only [i64_w, i32_w]; rw [c7b0]) | skip)
              have H' := Aside0.mk H
              clear H
              have hcz8_0 : w5.cell? ⟨gb182, 0, none⟩ = some (.int .i64 0) := (blk_cell BK182.out 0).trans rfl
              have hcz8_1 : w5.cell? ⟨gb182, 1, none⟩ = some (.int .i64 0) := (blk_cell BK182.out 1).trans rfl
              have hcz8_2 : w5.cell? ⟨gb182, 2, none⟩ = some (.int .i64 0) := (blk_cell BK182.out 2).trans rfl
              have hcz8_3 : w5.cell? ⟨gb182, 3, none⟩ = some (.string (⟨#[]⟩ : ByteArray)) := (blk_cell BK182.out 3).trans rfl
              have hfz8_0 := blk_frozen BK182.out 0
              have hfz8_1 := blk_frozen BK182.out 1
              have hfz8_2 := blk_frozen BK182.out 2
              have hfz8_3 := blk_frozen BK182.out 3
              go_wp2
              repeat (go_quiet (fail); try go_wp2)
              go_meet
              case rel => exact ⟨_, (true), (by first | rfl | (simp; done) | (simp [*]; done)), H', ⟨by have := HK1.out; first | omega | exact Nat.le_refl _⟩, ⟨by (with_reducible repeat (first | apply Kd.R_alloc | apply Kd.R_drewN | apply Kd.R_drew)); exact Kd.R_mono (Kd.R_far (p := ⟨gb182, 3, none⟩) (Kd.R_far (p := ⟨gb182, 2, none⟩) (Kd.R_far (p := ⟨gb182, 1, none⟩) (Kd.R_far (p := ⟨gb182, 0, none⟩) (Kd.R_types HO_4.out BK182.out (by decide)) (fun _ hk => hk.2) (.int .i64 ((rd_T84 l0 x5_1).f0))) (fun _ hk => hk.2) (.int .i64 ((rd_T84 l0 x5_1).f1))) (fun _ hk => hk.2) (.int .i64 ((rd_T84 l0 x5_1).f2))) (fun _ hk => hk.2) (.string ((rd_T84 l0 x5_1).f3))) (fun _ hk => trivial)⟩, ⟨blkP BK182.out (by rfl)⟩, ⟨belG HB.out GE182.out⟩⟩
            · rw [if_neg c7] at H
              have c7b0 : decide (((rd_T84 l0 x5_1).f0) < 1) = false := decide_eq_false c7
              clear c7
              (first | rw [c7b0] | (simp only [i64_w, i32_w]; rw [c7b0]) | skip)
              by_cases c9 : ((rd_T84 l0 x5_1).f0) > 63
              · rw [if_pos c9] at H
                have c9b0 : decide (63 < ((rd_T84 l0 x5_1).f0)) = true := decide_eq_true c9
                clear c9
                have H' := Aside0.mk H
                clear H
                have hcz10_0 : w5.cell? ⟨gb182, 0, none⟩ = some (.int .i64 0) := (blk_cell BK182.out 0).trans rfl
                have hcz10_1 : w5.cell? ⟨gb182, 1, none⟩ = some (.int .i64 0) := (blk_cell BK182.out 1).trans rfl
                have hcz10_2 : w5.cell? ⟨gb182, 2, none⟩ = some (.int .i64 0) := (blk_cell BK182.out 2).trans rfl
                have hcz10_3 : w5.cell? ⟨gb182, 3, none⟩ = some (.string (⟨#[]⟩ : ByteArray)) := (blk_cell BK182.out 3).trans rfl
                have hfz10_0 := blk_frozen BK182.out 0
                have hfz10_1 := blk_frozen BK182.out 1
                have hfz10_2 := blk_frozen BK182.out 2
                have hfz10_3 := blk_frozen BK182.out 3
                go_wp2
                repeat (go_quiet (fail); try go_wp2)
                go_meet
                case rel => exact ⟨_, (true), (by first | rfl | (simp; done) | (simp [*]; done)), H', ⟨by have := HK1.out; first | omega | exact Nat.le_refl _⟩, ⟨by (with_reducible repeat (first | apply Kd.R_alloc | apply Kd.R_drewN | apply Kd.R_drew)); exact Kd.R_mono (Kd.R_far (p := ⟨gb182, 3, none⟩) (Kd.R_far (p := ⟨gb182, 2, none⟩) (Kd.R_far (p := ⟨gb182, 1, none⟩) (Kd.R_far (p := ⟨gb182, 0, none⟩) (Kd.R_types HO_4.out BK182.out (by decide)) (fun _ hk => hk.2) (.int .i64 ((rd_T84 l0 x5_1).f0))) (fun _ hk => hk.2) (.int .i64 ((rd_T84 l0 x5_1).f1))) (fun _ hk => hk.2) (.int .i64 ((rd_T84 l0 x5_1).f2))) (fun _ hk => hk.2) (.string ((rd_T84 l0 x5_1).f3))) (fun _ hk => trivial)⟩, ⟨blkP BK182.out (by rfl)⟩, ⟨belG HB.out GE182.out⟩⟩
              · rw [if_neg c9] at H
                have c9b0 : decide (63 < ((rd_T84 l0 x5_1).f0)) = false := decide_eq_false c9
                clear c9
                by_cases c11 : ((rd_T84 l0 x5_1).f1) < 0
                · rw [if_pos c11] at H
                  have c11b0 : decide (((rd_T84 l0 x5_1).f1) < 0) = true := decide_eq_true c11
                  clear c11
                  have H' := Aside0.mk H
                  clear H
                  have hcz12_0 : w5.cell? ⟨gb182, 0, none⟩ = some (.int .i64 0) := (blk_cell BK182.out 0).trans rfl
                  have hcz12_1 : w5.cell? ⟨gb182, 1, none⟩ = some (.int .i64 0) := (blk_cell BK182.out 1).trans rfl
                  have hcz12_2 : w5.cell? ⟨gb182, 2, none⟩ = some (.int .i64 0) := (blk_cell BK182.out 2).trans rfl
                  have hcz12_3 : w5.cell? ⟨gb182, 3, none⟩ = some (.string (⟨#[]⟩ : ByteArray)) := (blk_cell BK182.out 3).trans rfl
                  have hfz12_0 := blk_frozen BK182.out 0
                  have hfz12_1 := blk_frozen BK182.out 1
                  have hfz12_2 := blk_frozen BK182.out 2
                  have hfz12_3 := blk_frozen BK182.out 3
                  go_wp2
                  repeat (go_quiet (fail); try go_wp2)
                  go_meet
                  case rel => exact ⟨_, (true), (by first | rfl | (simp; done) | (simp [*]; done)), H', ⟨by have := HK1.out; first | omega | exact Nat.le_refl _⟩, ⟨by (with_reducible repeat (first | apply Kd.R_alloc | apply Kd.R_drewN | apply Kd.R_drew)); exact Kd.R_mono (Kd.R_far (p := ⟨gb182, 3, none⟩) (Kd.R_far (p := ⟨gb182, 2, none⟩) (Kd.R_far (p := ⟨gb182, 1, none⟩) (Kd.R_far (p := ⟨gb182, 0, none⟩) (Kd.R_types HO_4.out BK182.out (by decide)) (fun _ hk => hk.2) (.int .i64 ((rd_T84 l0 x5_1).f0))) (fun _ hk => hk.2) (.int .i64 ((rd_T84 l0 x5_1).f1))) (fun _ hk => hk.2) (.int .i64 ((rd_T84 l0 x5_1).f2))) (fun _ hk => hk.2) (.string ((rd_T84 l0 x5_1).f3))) (fun _ hk => trivial)⟩, ⟨blkP BK182.out (by rfl)⟩, ⟨belG HB.out GE182.out⟩⟩
                · rw [if_neg c11] at H
                  have c11b0 : decide (((rd_T84 l0 x5_1).f1) < 0) = false := decide_eq_false c11
                  clear c11
                  by_cases c13 : ((rd_T84 l0 x5_1).f1) > 1
                  · rw [if_pos c13] at H
                    have c13b0 : decide (1 < ((rd_T84 l0 x5_1).f1)) = true := decide_eq_true c13
                    clear c13
                    have H' := Aside0.mk H
                    clear H
                    have hcz14_0 : w5.cell? ⟨gb182, 0, none⟩ = some (.int .i64 0) := (blk_cell BK182.out 0).trans rfl
                    have hcz14_1 : w5.cell? ⟨gb182, 1, none⟩ = some (.int .i64 0) := (blk_cell BK182.out 1).trans rfl
                    have hcz14_2 : w5.cell? ⟨gb182, 2, none⟩ = some (.int .i64 0) := (blk_cell BK182.out 2).trans rfl
                    have hcz14_3 : w5.cell? ⟨gb182, 3, none⟩ = some (.string (⟨#[]⟩ : ByteArray)) := (blk_cell BK182.out 3).trans rfl
                    have hfz14_0 := blk_frozen BK182.out 0
                    have hfz14_1 := blk_frozen BK182.out 1
                    have hfz14_2 := blk_frozen BK182.out 2
                    have hfz14_3 := blk_frozen BK182.out 3
                    go_wp2
                    repeat (go_quiet (fail); try go_wp2)
                    go_meet
                    case rel => exact ⟨_, (true), (by first | rfl | (simp; done) | (simp [*]; done)), H', ⟨by have := HK1.out; first | omega | exact Nat.le_refl _⟩, ⟨by (with_reducible repeat (first | apply Kd.R_alloc | apply Kd.R_drewN | apply Kd.R_drew)); exact Kd.R_mono (Kd.R_far (p := ⟨gb182, 3, none⟩) (Kd.R_far (p := ⟨gb182, 2, none⟩) (Kd.R_far (p := ⟨gb182, 1, none⟩) (Kd.R_far (p := ⟨gb182, 0, none⟩) (Kd.R_types HO_4.out BK182.out (by decide)) (fun _ hk => hk.2) (.int .i64 ((rd_T84 l0 x5_1).f0))) (fun _ hk => hk.2) (.int .i64 ((rd_T84 l0 x5_1).f1))) (fun _ hk => hk.2) (.int .i64 ((rd_T84 l0 x5_1).f2))) (fun _ hk => hk.2) (.string ((rd_T84 l0 x5_1).f3))) (fun _ hk => trivial)⟩, ⟨blkP BK182.out (by rfl)⟩, ⟨belG HB.out GE182.out⟩⟩
                  · rw [if_neg c13] at H
                    have c13b0 : decide (1 < ((rd_T84 l0 x5_1).f1)) = false := decide_eq_false c13
                    clear c13
                    by_cases c15 : ((rd_T84 l0 x5_1).f2) < 0
                    · rw [if_pos c15] at H
                      have c15b0 : decide (((rd_T84 l0 x5_1).f2) < 0) = true := decide_eq_true c15
                      clear c15
                      have H' := Aside0.mk H
                      clear H
                      have hcz16_0 : w5.cell? ⟨gb182, 0, none⟩ = some (.int .i64 0) := (blk_cell BK182.out 0).trans rfl
                      have hcz16_1 : w5.cell? ⟨gb182, 1, none⟩ = some (.int .i64 0) := (blk_cell BK182.out 1).trans rfl
                      have hcz16_2 : w5.cell? ⟨gb182, 2, none⟩ = some (.int .i64 0) := (blk_cell BK182.out 2).trans rfl
                      have hcz16_3 : w5.cell? ⟨gb182, 3, none⟩ = some (.string (⟨#[]⟩ : ByteArray)) := (blk_cell BK182.out 3).trans rfl
                      have hfz16_0 := blk_frozen BK182.out 0
                      have hfz16_1 := blk_frozen BK182.out 1
                      have hfz16_2 := blk_frozen BK182.out 2
                      have hfz16_3 := blk_frozen BK182.out 3
                      go_wp2
                      repeat (go_quiet (fail); try go_wp2)
                      go_meet
                      case rel => exact ⟨_, (true), (by first | rfl | (simp; done) | (simp [*]; done)), H', ⟨by have := HK1.out; first | omega | exact Nat.le_refl _⟩, ⟨by (with_reducible repeat (first | apply Kd.R_alloc | apply Kd.R_drewN | apply Kd.R_drew)); exact Kd.R_mono (Kd.R_far (p := ⟨gb182, 3, none⟩) (Kd.R_far (p := ⟨gb182, 2, none⟩) (Kd.R_far (p := ⟨gb182, 1, none⟩) (Kd.R_far (p := ⟨gb182, 0, none⟩) (Kd.R_types HO_4.out BK182.out (by decide)) (fun _ hk => hk.2) (.int .i64 ((rd_T84 l0 x5_1).f0))) (fun _ hk => hk.2) (.int .i64 ((rd_T84 l0 x5_1).f1))) (fun _ hk => hk.2) (.int .i64 ((rd_T84 l0 x5_1).f2))) (fun _ hk => hk.2) (.string ((rd_T84 l0 x5_1).f3))) (fun _ hk => trivial)⟩, ⟨blkP BK182.out (by rfl)⟩, ⟨belG HB.out GE182.out⟩⟩
                    · rw [if_neg c15] at H
                      have c15b0 : decide (((rd_T84 l0 x5_1).f2) < 0) = false := decide_eq_false c15
                      clear c15
                      by_cases c17 : ((rd_T84 l0 x5_1).f2) > 4611686018427387904
                      · rw [if_pos c17] at H
                        have c17b0 : decide (4611686018427387904 < ((rd_T84 l0 x5_1).f2)) = true := decide_eq_true c17
                        clear c17
                        have H' := Aside0.mk H
                        clear H
                        have hcz18_0 : w5.cell? ⟨gb182, 0, none⟩ = some (.int .i64 0) := (blk_cell BK182.out 0).trans rfl
                        have hcz18_1 : w5.cell? ⟨gb182, 1, none⟩ = some (.int .i64 0) := (blk_cell BK182.out 1).trans rfl
                        have hcz18_2 : w5.cell? ⟨gb182, 2, none⟩ = some (.int .i64 0) := (blk_cell BK182.out 2).trans rfl
                        have hcz18_3 : w5.cell? ⟨gb182, 3, none⟩ = some (.string (⟨#[]⟩ : ByteArray)) := (blk_cell BK182.out 3).trans rfl
                        have hfz18_0 := blk_frozen BK182.out 0
                        have hfz18_1 := blk_frozen BK182.out 1
                        have hfz18_2 := blk_frozen BK182.out 2
                        have hfz18_3 := blk_frozen BK182.out 3
                        go_wp2
                        repeat (go_quiet (fail); try go_wp2)
                        go_meet
                        case rel => exact ⟨_, (true), (by first | rfl | (simp; done) | (simp [*]; done)), H', ⟨by have := HK1.out; first | omega | exact Nat.le_refl _⟩, ⟨by (with_reducible repeat (first | apply Kd.R_alloc | apply Kd.R_drewN | apply Kd.R_drew)); exact Kd.R_mono (Kd.R_far (p := ⟨gb182, 3, none⟩) (Kd.R_far (p := ⟨gb182, 2, none⟩) (Kd.R_far (p := ⟨gb182, 1, none⟩) (Kd.R_far (p := ⟨gb182, 0, none⟩) (Kd.R_types HO_4.out BK182.out (by decide)) (fun _ hk => hk.2) (.int .i64 ((rd_T84 l0 x5_1).f0))) (fun _ hk => hk.2) (.int .i64 ((rd_T84 l0 x5_1).f1))) (fun _ hk => hk.2) (.int .i64 ((rd_T84 l0 x5_1).f2))) (fun _ hk => hk.2) (.string ((rd_T84 l0 x5_1).f3))) (fun _ hk => trivial)⟩, ⟨blkP BK182.out (by rfl)⟩, ⟨belG HB.out GE182.out⟩⟩
                      · rw [if_neg c17] at H
                        have c17b0 : decide (4611686018427387904 < ((rd_T84 l0 x5_1).f2)) = false := decide_eq_false c17
                        clear c17
                        by_cases c19 : ((rd_T84 l0 x5_1).f1) = 0
                        · rw [if_pos c19] at H
                          have c19b0 : (((rd_T84 l0 x5_1).f1) == 0) = true := beq_iff_eq.mpr c19
                          have c19b1 : (((rd_T84 l0 x5_1).f1) != 0) = false := bne_eq_false_iff_eq.mpr c19
                          clear c19
                          by_cases c20 : ((rd_T84 l0 x5_1).f3).toList = ([] : List UInt8)
                          · rw [if_pos c20] at H
                            have c20b0 : (((rd_T84 l0 x5_1).f3).toList == ([] : List UInt8)) = true := beq_iff_eq.mpr c20
                            have c20b1 : (((rd_T84 l0 x5_1).f3).toList != ([] : List UInt8)) = false := bne_eq_false_iff_eq.mpr c20
                            clear c20
                            by_cases c21 : ((rd_T84 l0 x5_1).f1) = 1
                            · rw [if_pos c21] at H
                              have c21b0 : (((rd_T84 l0 x5_1).f1) == 1) = true := beq_iff_eq.mpr c21
                              have c21b1 : (((rd_T84 l0 x5_1).f1) != 1) = false := bne_eq_false_iff_eq.mpr c21
                              clear c21
                              have H' := Aside0.mk H
                              clear H
                              have hcz22_0 : w5.cell? ⟨gb182, 0, none⟩ = some (.int .i64 0) := (blk_cell BK182.out 0).trans rfl
                              have hcz22_1 : w5.cell? ⟨gb182, 1, none⟩ = some (.int .i64 0) := (blk_cell BK182.out 1).trans rfl
                              have hcz22_2 : w5.cell? ⟨gb182, 2, none⟩ = some (.int .i64 0) := (blk_cell BK182.out 2).trans rfl
                              have hcz22_3 : w5.cell? ⟨gb182, 3, none⟩ = some (.string (⟨#[]⟩ : ByteArray)) := (blk_cell BK182.out 3).trans rfl
                              have hfz22_0 := blk_frozen BK182.out 0
                              have hfz22_1 := blk_frozen BK182.out 1
                              have hfz22_2 := blk_frozen BK182.out 2
                              have hfz22_3 := blk_frozen BK182.out 3
                              go_wp2
                              repeat (go_quiet (fail); try go_wp2)
                              go_meet
                              case rel => exact ⟨_, ((((rd_T84 l0 x5_1).f2) != 0)), (by first | rfl | (simp; done) | (simp [*]; done)), H', ⟨by have := HK1.out; first | omega | exact Nat.le_refl _⟩, ⟨by (with_reducible repeat (first | apply Kd.R_alloc | apply Kd.R_drewN | apply Kd.R_drew)); exact Kd.R_mono (Kd.R_far (p := ⟨gb182, 3, none⟩) (Kd.R_far (p := ⟨gb182, 2, none⟩) (Kd.R_far (p := ⟨gb182, 1, none⟩) (Kd.R_far (p := ⟨gb182, 0, none⟩) (Kd.R_types HO_4.out BK182.out (by decide)) (fun _ hk => hk.2) (.int .i64 ((rd_T84 l0 x5_1).f0))) (fun _ hk => hk.2) (.int .i64 ((rd_T84 l0 x5_1).f1))) (fun _ hk => hk.2) (.int .i64 ((rd_T84 l0 x5_1).f2))) (fun _ hk => hk.2) (.string ((rd_T84 l0 x5_1).f3))) (fun _ hk => trivial)⟩, ⟨blkP BK182.out (by rfl)⟩, ⟨belG HB.out GE182.out⟩⟩
                            · rw [if_neg c21] at H
                              have c21b0 : (((rd_T84 l0 x5_1).f1) == 1) = false := beq_eq_false_iff_ne.mpr c21
                              have c21b1 : (((rd_T84 l0 x5_1).f1) != 1) = true := bne_iff_ne.mpr c21
                              have H' := Aside0.mk H
                              clear H
                              have hcz23_0 : w5.cell? ⟨gb182, 0, none⟩ = some (.int .i64 0) := (blk_cell BK182.out 0).trans rfl
                              have hcz23_1 : w5.cell? ⟨gb182, 1, none⟩ = some (.int .i64 0) := (blk_cell BK182.out 1).trans rfl
                              have hcz23_2 : w5.cell? ⟨gb182, 2, none⟩ = some (.int .i64 0) := (blk_cell BK182.out 2).trans rfl
                              have hcz23_3 : w5.cell? ⟨gb182, 3, none⟩ = some (.string (⟨#[]⟩ : ByteArray)) := (blk_cell BK182.out 3).trans rfl
                              have hfz23_0 := blk_frozen BK182.out 0
                              have hfz23_1 := blk_frozen BK182.out 1
                              have hfz23_2 := blk_frozen BK182.out 2
                              have hfz23_3 := blk_frozen BK182.out 3
                              go_wp2
                              repeat (go_quiet (fail); try go_wp2)
                              go_meet
                              case rel => exact ⟨_, (false), (by first | rfl | (simp; done) | (simp [*]; done)), H', ⟨by have := HK1.out; first | omega | exact Nat.le_refl _⟩, ⟨by (with_reducible repeat (first | apply Kd.R_alloc | apply Kd.R_drewN | apply Kd.R_drew)); exact Kd.R_mono (Kd.R_far (p := ⟨gb182, 3, none⟩) (Kd.R_far (p := ⟨gb182, 2, none⟩) (Kd.R_far (p := ⟨gb182, 1, none⟩) (Kd.R_far (p := ⟨gb182, 0, none⟩) (Kd.R_types HO_4.out BK182.out (by decide)) (fun _ hk => hk.2) (.int .i64 ((rd_T84 l0 x5_1).f0))) (fun _ hk => hk.2) (.int .i64 ((rd_T84 l0 x5_1).f1))) (fun _ hk => hk.2) (.int .i64 ((rd_T84 l0 x5_1).f2))) (fun _ hk => hk.2) (.string ((rd_T84 l0 x5_1).f3))) (fun _ hk => trivial)⟩, ⟨blkP BK182.out (by rfl)⟩, ⟨belG HB.out GE182.out⟩⟩
                          · rw [if_neg c20] at H
                            have c20b0 : (((rd_T84 l0 x5_1).f3).toList == ([] : List UInt8)) = false := beq_eq_false_iff_ne.mpr c20
                            have c20b1 : (((rd_T84 l0 x5_1).f3).toList != ([] : List UInt8)) = true := bne_iff_ne.mpr c20
                            have H' := Aside0.mk H
                            clear H
                            have hcz24_0 : w5.cell? ⟨gb182, 0, none⟩ = some (.int .i64 0) := (blk_cell BK182.out 0).trans rfl
                            have hcz24_1 : w5.cell? ⟨gb182, 1, none⟩ = some (.int .i64 0) := (blk_cell BK182.out 1).trans rfl
                            have hcz24_2 : w5.cell? ⟨gb182, 2, none⟩ = some (.int .i64 0) := (blk_cell BK182.out 2).trans rfl
                            have hcz24_3 : w5.cell? ⟨gb182, 3, none⟩ = some (.string (⟨#[]⟩ : ByteArray)) := (blk_cell BK182.out 3).trans rfl
                            have hfz24_0 := blk_frozen BK182.out 0
                            have hfz24_1 := blk_frozen BK182.out 1
                            have hfz24_2 := blk_frozen BK182.out 2
                            have hfz24_3 := blk_frozen BK182.out 3
                            go_wp2
                            repeat (go_quiet (fail); try go_wp2)
                            go_meet
                            case rel => exact ⟨_, (true), (by first | rfl | (simp; done) | (simp [*]; done)), H', ⟨by have := HK1.out; first | omega | exact Nat.le_refl _⟩, ⟨by (with_reducible repeat (first | apply Kd.R_alloc | apply Kd.R_drewN | apply Kd.R_drew)); exact Kd.R_mono (Kd.R_far (p := ⟨gb182, 3, none⟩) (Kd.R_far (p := ⟨gb182, 2, none⟩) (Kd.R_far (p := ⟨gb182, 1, none⟩) (Kd.R_far (p := ⟨gb182, 0, none⟩) (Kd.R_types HO_4.out BK182.out (by decide)) (fun _ hk => hk.2) (.int .i64 ((rd_T84 l0 x5_1).f0))) (fun _ hk => hk.2) (.int .i64 ((rd_T84 l0 x5_1).f1))) (fun _ hk => hk.2) (.int .i64 ((rd_T84 l0 x5_1).f2))) (fun _ hk => hk.2) (.string ((rd_T84 l0 x5_1).f3))) (fun _ hk => trivial)⟩, ⟨blkP BK182.out (by rfl)⟩, ⟨belG HB.out GE182.out⟩⟩
                        · rw [if_neg c19] at H
                          have c19b0 : (((rd_T84 l0 x5_1).f1) == 0) = false := beq_eq_false_iff_ne.mpr c19
                          have c19b1 : (((rd_T84 l0 x5_1).f1) != 0) = true := bne_iff_ne.mpr c19
                          by_cases c25 : ((rd_T84 l0 x5_1).f1) = 1
                          · rw [if_pos c25] at H
                            have c25b0 : (((rd_T84 l0 x5_1).f1) == 1) = true := beq_iff_eq.mpr c25
                            have c25b1 : (((rd_T84 l0 x5_1).f1) != 1) = false := bne_eq_false_iff_eq.mpr c25
                            clear c25
                            have H' := Aside0.mk H
                            clear H
                            have hcz26_0 : w5.cell? ⟨gb182, 0, none⟩ = some (.int .i64 0) := (blk_cell BK182.out 0).trans rfl
                            have hcz26_1 : w5.cell? ⟨gb182, 1, none⟩ = some (.int .i64 0) := (blk_cell BK182.out 1).trans rfl
                            have hcz26_2 : w5.cell? ⟨gb182, 2, none⟩ = some (.int .i64 0) := (blk_cell BK182.out 2).trans rfl
                            have hcz26_3 : w5.cell? ⟨gb182, 3, none⟩ = some (.string (⟨#[]⟩ : ByteArray)) := (blk_cell BK182.out 3).trans rfl
                            have hfz26_0 := blk_frozen BK182.out 0
                            have hfz26_1 := blk_frozen BK182.out 1
                            have hfz26_2 := blk_frozen BK182.out 2
                            have hfz26_3 := blk_frozen BK182.out 3
                            go_wp2
                            repeat (go_quiet (fail); try go_wp2)
                            go_meet
                            case rel => exact ⟨_, ((((rd_T84 l0 x5_1).f2) != 0)), (by first | rfl | (simp; done) | (simp [*]; done)), H', ⟨by have := HK1.out; first | omega | exact Nat.le_refl _⟩, ⟨by (with_reducible repeat (first | apply Kd.R_alloc | apply Kd.R_drewN | apply Kd.R_drew)); exact Kd.R_mono (Kd.R_far (p := ⟨gb182, 3, none⟩) (Kd.R_far (p := ⟨gb182, 2, none⟩) (Kd.R_far (p := ⟨gb182, 1, none⟩) (Kd.R_far (p := ⟨gb182, 0, none⟩) (Kd.R_types HO_4.out BK182.out (by decide)) (fun _ hk => hk.2) (.int .i64 ((rd_T84 l0 x5_1).f0))) (fun _ hk => hk.2) (.int .i64 ((rd_T84 l0 x5_1).f1))) (fun _ hk => hk.2) (.int .i64 ((rd_T84 l0 x5_1).f2))) (fun _ hk => hk.2) (.string ((rd_T84 l0 x5_1).f3))) (fun _ hk => trivial)⟩, ⟨blkP BK182.out (by rfl)⟩, ⟨belG HB.out GE182.out⟩⟩
                          · rw [if_neg c25] at H
                            have c25b0 : (((rd_T84 l0 x5_1).f1) == 1) = false := beq_eq_false_iff_ne.mpr c25
                            have c25b1 : (((rd_T84 l0 x5_1).f1) != 1) = true := bne_iff_ne.mpr c25
                            have H' := Aside0.mk H
                            clear H
                            have hcz27_0 : w5.cell? ⟨gb182, 0, none⟩ = some (.int .i64 0) := (blk_cell BK182.out 0).trans rfl
                            have hcz27_1 : w5.cell? ⟨gb182, 1, none⟩ = some (.int .i64 0) := (blk_cell BK182.out 1).trans rfl
                            have hcz27_2 : w5.cell? ⟨gb182, 2, none⟩ = some (.int .i64 0) := (blk_cell BK182.out 2).trans rfl
                            have hcz27_3 : w5.cell? ⟨gb182, 3, none⟩ = some (.string (⟨#[]⟩ : ByteArray)) := (blk_cell BK182.out 3).trans rfl
                            have hfz27_0 := blk_frozen BK182.out 0
                            have hfz27_1 := blk_frozen BK182.out 1
                            have hfz27_2 := blk_frozen BK182.out 2
                            have hfz27_3 := blk_frozen BK182.out 3
                            go_wp2
                            repeat (go_quiet (fail); try go_wp2)
                            go_meet
                            case rel => exact ⟨_, (false), (by first | rfl | (simp; done) | (simp [*]; done)), H', ⟨by have := HK1.out; first | omega | exact Nat.le_refl _⟩, ⟨by (with_reducible repeat (first | apply Kd.R_alloc | apply Kd.R_drewN | apply Kd.R_drew)); exact Kd.R_mono (Kd.R_far (p := ⟨gb182, 3, none⟩) (Kd.R_far (p := ⟨gb182, 2, none⟩) (Kd.R_far (p := ⟨gb182, 1, none⟩) (Kd.R_far (p := ⟨gb182, 0, none⟩) (Kd.R_types HO_4.out BK182.out (by decide)) (fun _ hk => hk.2) (.int .i64 ((rd_T84 l0 x5_1).f0))) (fun _ hk => hk.2) (.int .i64 ((rd_T84 l0 x5_1).f1))) (fun _ hk => hk.2) (.int .i64 ((rd_T84 l0 x5_1).f2))) (fun _ hk => hk.2) (.string ((rd_T84 l0 x5_1).f3))) (fun _ hk => trivial)⟩, ⟨blkP BK182.out (by rfl)⟩, ⟨belG HB.out GE182.out⟩⟩
          case rest =>
            clear HC4
            try clear c1
            try clear p1
            try clear q1
            try clear hx1
            try clear c2
            try clear c2b0
            try clear p2
            try clear c3
            try clear c3b0
            try clear c7
            try clear c7b0
            try clear c9
            try clear c9b0
            try clear c11
            try clear c11b0
            try clear c13
            try clear c13b0
            try clear c15
            try clear c15b0
            try clear c17
            try clear c17b0
            try clear p18
            try clear q18
            try clear hx18
            try clear c19
            try clear c19b0
            try clear c19b1
            try clear c20
            try clear c20b0
            try clear c20b1
            try clear c21
            try clear c21b0
            try clear c21b1
            try clear c25
            try clear c25b0
            try clear c25b1
            try clear hcz10_0
            try clear hcz10_1
            try clear hcz10_2
            try clear hcz10_3
            try clear hcz12_0
            try clear hcz12_1
            try clear hcz12_2
            try clear hcz12_3
            try clear hcz14_0
            try clear hcz14_1
            try clear hcz14_2
            try clear hcz14_3
            try clear hcz16_0
            try clear hcz16_1
            try clear hcz16_2
            try clear hcz16_3
            try clear hcz18_0
            try clear hcz18_1
            try clear hcz18_2
            try clear hcz18_3
            try clear hcz22_0
            try clear hcz22_1
            try clear hcz22_2
            try clear hcz22_3
            try clear hcz23_0
            try clear hcz23_1
            try clear hcz23_2
            try clear hcz23_3
            try clear hcz24_0
            try clear hcz24_1
            try clear hcz24_2
            try clear hcz24_3
            try clear hcz26_0
            try clear hcz26_1
            try clear hcz26_2
            try clear hcz26_3
            try clear hcz27_0
            try clear hcz27_1
            try clear hcz27_2
            try clear hcz27_3
            try clear hcz6_0
            try clear hcz6_1
            try clear hcz6_2
            try clear hcz6_3
            try clear hcz8_0
            try clear hcz8_1
            try clear hcz8_2
            try clear hcz8_3
            try clear hfz10_0
            try clear hfz10_1
            try clear hfz10_2
            try clear hfz10_3
            try clear hfz12_0
            try clear hfz12_1
            try clear hfz12_2
            try clear hfz12_3
            try clear hfz14_0
            try clear hfz14_1
            try clear hfz14_2
            try clear hfz14_3
            try clear hfz16_0
            try clear hfz16_1
            try clear hfz16_2
            try clear hfz16_3
            try clear hfz18_0
            try clear hfz18_1
            try clear hfz18_2
            try clear hfz18_3
            try clear hfz22_0
            try clear hfz22_1
            try clear hfz22_2
            try clear hfz22_3
            try clear hfz23_0
            try clear hfz23_1
            try clear hfz23_2
            try clear hfz23_3
            try clear hfz24_0
            try clear hfz24_1
            try clear hfz24_2
            try clear hfz24_3
            try clear hfz26_0
            try clear hfz26_1
            try clear hfz26_2
            try clear hfz26_3
            try clear hfz27_0
            try clear hfz27_1
            try clear hfz27_2
            try clear hfz27_3
            try clear hfz6_0
            try clear hfz6_1
            try clear hfz6_2
            try clear hfz6_3
            try clear hfz8_0
            try clear hfz8_1
            try clear hfz8_2
            try clear hfz8_3
            try clear hx181_0
            try clear hx181_1
            try clear hx181_2
            try clear hx181_3
            try clear p181
            try clear q181
            obtain ⟨kq, x64_3, rfl, HA, HJ3, HO_4, BK182, HB⟩ := hcut
            cases kq with
            | zero => exact absurd HA.out (by simp [aquiferref04_Encode.j1])
            | succ kj3 =>
              have H := HA.out
              clear HA
              simp only [aquiferref04_Encode.j1] at H
              by_cases c28 : x64_3 = true
              · subst c28
                have H1 : (some ((⟨#[]⟩ : ByteArray), 2)) = some (r1, r2) := by rw [if_pos rfl] at H; exact H
                clear H
                have H := H1
                clear H1
                simp only [Option.some.injEq, Prod.mk.injEq] at H
                obtain ⟨rfl, rfl⟩ := H
                go_wp2
                repeat (go_quiet (fail); try go_wp2)
                go_ret2
                exact ⟨by first | rfl | (simp [errW_none, errW_some] <;> rfl) | (simp [*, errW_none, errW_some] <;> rfl), belG HB.out GE182.out⟩
              · replace c28 := Bool.eq_false_iff.mpr c28
                subst c28
                have H1 : (if (((rd_T84 l0 x5_1).f3).size : Int) > 4096 then (some ((⟨#[]⟩ : ByteArray), 3)) else (if x5_1 > 0 then (if 0 ≤ (wrap64 (x5_1 - 1)) then (if (wrap64 (x5_1 - 1)) < (l0.length : Int) then (if ((rd_T84 l0 x5_1).f0) < ((rd_T84 l0 (wrap64 (x5_1 - 1))).f0) then (some ((⟨#[]⟩ : ByteArray), 9)) else ((aquiferref04_bytes.f kj3 ((rd_T84 l0 x5_1).f0) ((rd_T84 l0 x5_1).f1) ((rd_T84 l0 x5_1).f2) ((rd_T84 l0 x5_1).f3)).bind fun t184 => (if x4_1.length + t184.length < 140737488355328 then (aquiferref04_Encode.l0 kj3 l0 (x4_1 ++ t184) (wrap64 (x5_1 + 1))) else (none)))) else (none)) else (none)) else ((aquiferref04_bytes.f kj3 ((rd_T84 l0 x5_1).f0) ((rd_T84 l0 x5_1).f1) ((rd_T84 l0 x5_1).f2) ((rd_T84 l0 x5_1).f3)).bind fun t190 => (if x4_1.length + t190.length < 140737488355328 then (aquiferref04_Encode.l0 kj3 l0 (x4_1 ++ t190) (wrap64 (x5_1 + 1))) else (none))))) = some (r1, r2) := by rw [if_neg (show ¬ (false = true) by decide)] at H; exact H
                clear H
                have H := H1
                clear H1
                by_cases c29 : (((rd_T84 l0 x5_1).f3).size : Int) > 4096
                · rw [if_pos c29] at H
                  have c29b0 : decide (4096 < (((rd_T84 l0 x5_1).f3).size : Int)) = true := decide_eq_true c29
                  have c29b1 : decide (4096 < ((rd_T84 l0 x5_1).f3).size) = true := decide_eq_true (by omega)
                  clear c29
                  simp only [Option.some.injEq, Prod.mk.injEq] at H
                  obtain ⟨rfl, rfl⟩ := H
                  have hcz30_0 : wc.cell? ⟨gb182, 0, none⟩ = some (.int .i64 ((rd_T84 l0 x5_1).f0)) := (blk_cell BK182.out 0).trans rfl
                  have hcz30_1 : wc.cell? ⟨gb182, 1, none⟩ = some (.int .i64 ((rd_T84 l0 x5_1).f1)) := (blk_cell BK182.out 1).trans rfl
                  have hcz30_2 : wc.cell? ⟨gb182, 2, none⟩ = some (.int .i64 ((rd_T84 l0 x5_1).f2)) := (blk_cell BK182.out 2).trans rfl
                  have hcz30_3 : wc.cell? ⟨gb182, 3, none⟩ = some (.string ((rd_T84 l0 x5_1).f3)) := (blk_cell BK182.out 3).trans rfl
                  have hfz30_0 := blk_frozen BK182.out 0
                  have hfz30_1 := blk_frozen BK182.out 1
                  have hfz30_2 := blk_frozen BK182.out 2
                  have hfz30_3 := blk_frozen BK182.out 3
                  go_wp2
                  repeat (go_quiet (fail); try go_wp2)
                  go_ret2
                  exact ⟨by first | rfl | (simp [errW_none, errW_some] <;> rfl) | (simp [*, errW_none, errW_some] <;> rfl), belG HB.out GE182.out⟩
                · rw [if_neg c29] at H
                  have c29b0 : decide (4096 < (((rd_T84 l0 x5_1).f3).size : Int)) = false := decide_eq_false c29
                  have c29b1 : decide (4096 < ((rd_T84 l0 x5_1).f3).size) = false := decide_eq_false (by omega)
                  clear c29
                  by_cases c31 : x5_1 > 0
                  · rw [if_pos c31] at H
                    have c31b0 : decide (0 < x5_1) = true := decide_eq_true c31
                    clear c31
                    obtain ⟨ji32, hji32⟩ : ∃ j_ : Int, (wrap64 (x5_1 - 1)) = j_ := ⟨_, rfl⟩
                    replace H : (if 0 ≤ (ji32) then (if (ji32) < (l0.length : Int) then (if ((rd_T84 l0 x5_1).f0) < ((rd_T84 l0 (ji32)).f0) then (some ((⟨#[]⟩ : ByteArray), 9)) else ((aquiferref04_bytes.f kj3 ((rd_T84 l0 x5_1).f0) ((rd_T84 l0 x5_1).f1) ((rd_T84 l0 x5_1).f2) ((rd_T84 l0 x5_1).f3)).bind fun t184 => (if x4_1.length + t184.length < 140737488355328 then (aquiferref04_Encode.l0 kj3 l0 (x4_1 ++ t184) (wrap64 (x5_1 + 1))) else (none)))) else (none)) else (none)) = some (r1, r2) := by first | (rw [hji32] at H; exact H) | (simp only [hji32] at H ⊢; exact H)
                    have hji32w : (IntKind.i64.wrap (x5_1 - 1)) = ji32 := (i64_w _).trans hji32
                    by_cases c33 : 0 ≤ (ji32)
                    · rw [if_pos c33] at H
                      have c33b0 : decide (0 ≤ (ji32)) = true := decide_eq_true c33
                      clear c33
                      by_cases c34 : (ji32) < (l0.length : Int)
                      · rw [if_pos c34] at H
                        have c34b0 : decide ((ji32) < (l0.length : Int)) = true := decide_eq_true c34
                        clear c34
                        by_cases c35 : ((rd_T84 l0 x5_1).f0) < ((rd_T84 l0 (ji32)).f0)
                        · rw [if_pos c35] at H
                          have c35b0 : decide (((rd_T84 l0 x5_1).f0) < ((rd_T84 l0 (ji32)).f0)) = true := decide_eq_true c35
                          clear c35
                          simp only [Option.some.injEq, Prod.mk.injEq] at H
                          obtain ⟨rfl, rfl⟩ := H
                          have hcz36_0 : wc.cell? ⟨gb182, 0, none⟩ = some (.int .i64 ((rd_T84 l0 x5_1).f0)) := (blk_cell BK182.out 0).trans rfl
                          have hcz36_1 : wc.cell? ⟨gb182, 1, none⟩ = some (.int .i64 ((rd_T84 l0 x5_1).f1)) := (blk_cell BK182.out 1).trans rfl
                          have hcz36_2 : wc.cell? ⟨gb182, 2, none⟩ = some (.int .i64 ((rd_T84 l0 x5_1).f2)) := (blk_cell BK182.out 2).trans rfl
                          have hcz36_3 : wc.cell? ⟨gb182, 3, none⟩ = some (.string ((rd_T84 l0 x5_1).f3)) := (blk_cell BK182.out 3).trans rfl
                          have hfz36_0 := blk_frozen BK182.out 0
                          have hfz36_1 := blk_frozen BK182.out 1
                          have hfz36_2 := blk_frozen BK182.out 2
                          have hfz36_3 := blk_frozen BK182.out 3
                          have p183 : 0 ≤ ((ji32) : Int) := of_decide_eq_true (by first | (with_reducible assumption) | assumption)
                          have q183 : (ji32) < (l0.length : Int) := of_decide_eq_true (by first | (with_reducible assumption) | assumption)
                          obtain ⟨ad183, e183, hx183_0, hx183_1, hx183_2, hx183_3⟩ := at_T84 HR0.out (ji32) p183 q183
                          obtain rfl : ad181 = ad183 := (by injection e183)
                          replace hx183_0 := (HB.out.cell (World.block_lt_of_cell? w _ hx183_0)).trans hx183_0
                          replace hx183_1 := (HB.out.cell (World.block_lt_of_cell? w _ hx183_1)).trans hx183_1
                          replace hx183_2 := (HB.out.cell (World.block_lt_of_cell? w _ hx183_2)).trans hx183_2
                          replace hx183_3 := (HB.out.cell (World.block_lt_of_cell? w _ hx183_3)).trans hx183_3
                          replace p183 := eq_true p183
                          replace q183 := eq_true q183
                          go_wp2
                          repeat (go_quiet (fail); try go_wp2)
                          go_ret2
                          exact ⟨by first | rfl | (simp [errW_none, errW_some] <;> rfl) | (simp only [← hji32]; first | rfl | (simp [errW_none, errW_some] <;> rfl)) | (simp [*, errW_none, errW_some] <;> rfl), belG HB.out GE182.out⟩
                        · rw [if_neg c35] at H
                          have c35b0 : decide (((rd_T84 l0 x5_1).f0) < ((rd_T84 l0 (ji32)).f0)) = false := decide_eq_false c35
                          clear c35
                          replace H := Option.bind_eq_some_iff.mp H
                          obtain ⟨t184, A370, H⟩ := H
                          replace H : (if x4_1.length + t184.length < 140737488355328 then (aquiferref04_Encode.l0 kj3 l0 (x4_1 ++ t184) (wrap64 (x5_1 + 1))) else (none)) = some (r1, r2) := H
                          have A37 := Aside0.mk A370
                          clear A370
                          by_cases c38 : x4_1.length + t184.length < 140737488355328
                          · rw [if_pos c38] at H
                            have LMc38 := Aside0.mk c38
                            clear c38
                            obtain ⟨y187, hy187⟩ : ∃ y_ : List Int, y_ = (x4_1 ++ t184) := ⟨_, rfl⟩
                            replace H : (aquiferref04_Encode.l0 kj3 l0 y187 (wrap64 (x5_1 + 1))) = some (r1, r2) := by first | (rw [hy187]; with_reducible exact H) | (have H2_ := (Option.bind_some _ _).symm.trans H; rw [hy187]; with_reducible exact H2_) | (have H2_ := (Option.bind_some _ _).symm.trans H; with_reducible exact H2_) | with_reducible exact H | (rw [hy187]; exact H) | exact H
                            have Ny187 := Aside0.mk hy187
                            clear hy187
                            have H' := Aside0.mk H
                            clear H
                            have hcz39_0 : wc.cell? ⟨gb182, 0, none⟩ = some (.int .i64 ((rd_T84 l0 x5_1).f0)) := (blk_cell BK182.out 0).trans rfl
                            have hcz39_1 : wc.cell? ⟨gb182, 1, none⟩ = some (.int .i64 ((rd_T84 l0 x5_1).f1)) := (blk_cell BK182.out 1).trans rfl
                            have hcz39_2 : wc.cell? ⟨gb182, 2, none⟩ = some (.int .i64 ((rd_T84 l0 x5_1).f2)) := (blk_cell BK182.out 2).trans rfl
                            have hcz39_3 : wc.cell? ⟨gb182, 3, none⟩ = some (.string ((rd_T84 l0 x5_1).f3)) := (blk_cell BK182.out 3).trans rfl
                            have hfz39_0 := blk_frozen BK182.out 0
                            have hfz39_1 := blk_frozen BK182.out 1
                            have hfz39_2 := blk_frozen BK182.out 2
                            have hfz39_3 := blk_frozen BK182.out 3
                            have p183 : 0 ≤ ((ji32) : Int) := of_decide_eq_true (by first | (with_reducible assumption) | assumption)
                            have q183 : (ji32) < (l0.length : Int) := of_decide_eq_true (by first | (with_reducible assumption) | assumption)
                            obtain ⟨ad183, e183, hx183_0, hx183_1, hx183_2, hx183_3⟩ := at_T84 HR0.out (ji32) p183 q183
                            obtain rfl : ad181 = ad183 := (by injection e183)
                            replace hx183_0 := (HB.out.cell (World.block_lt_of_cell? w _ hx183_0)).trans hx183_0
                            replace hx183_1 := (HB.out.cell (World.block_lt_of_cell? w _ hx183_1)).trans hx183_1
                            replace hx183_2 := (HB.out.cell (World.block_lt_of_cell? w _ hx183_2)).trans hx183_2
                            replace hx183_3 := (HB.out.cell (World.block_lt_of_cell? w _ hx183_3)).trans hx183_3
                            replace p183 := eq_true p183
                            replace q183 := eq_true q183
                            go_wp2_with (first | (go_at_call 55; (with_reducible refine (aquiferref04_bytes.calls kj3 ((rd_T84 l0 x5_1).f0) ((rd_T84 l0 x5_1).f1) ((rd_T84 l0 x5_1).f2) ((rd_T84 l0 x5_1).f3) t184 _ A37.out).mono ?_); rintro e w40 ⟨v185, rfl, ho0, hb⟩; have n0_ := Aside0.mk (Kd.R_elder' (RU HO_4.out) (Kd.R_base ho0) hb); have n1_ := Aside0.mk (Kd.R_lower (Kd.R_new' ho0 (Kd.R_lt (RU HO_4.out))) (sizG HB.out GE182.out)); have n2_ := Aside0.mk (blk_below (blkU BK182.out) hb); have n3_ := Aside0.mk (below_step (belG HB.out GE182.out) hb); clear HO_4; clear BK182; clear HB; have HO_4 := n0_; have HO186 := n1_; have BK182 := n2_; have HB := n3_; clear n0_ n1_ n2_ n3_; (try clear hb); (try clear hb2); (try clear hk); (try clear hi); (try clear ho0); obtain ⟨Ao42, co42, eo42⟩ := Kd.R_slice HO186.out; subst eo42) | ((with_reducible refine gate_builtin (b := .append) (xs := #[.tmp 82, .tmp 84]) rfl ?_); at_builtin; refine Kd.R_append_rows (Kd.int .u8) (w0 := w) w.heap.size rfl (.tmp 82) (.tmp 84) 38 5 (.int .u8 0) 1 rfl Try.underlying38 info5 rfl (by decide) (by omega) u4 x4_1 t184 _ _ _ (fun k_ => some k_ ≠ (.slice Ao42 t184.length co42 : Value).ownBlock) (fun _ => False) rfl rfl ?aO ?aR (fun _ _ h => h) (fun _ h => h.elim) ?aF ?aB ?aS ?aL ?_; (case aR => exact CU (Kd.R_reads' HO186.out).2.2); (case aB => exact (belG HB.out GE182.out)); (case aF => exact (fun k_ hk => Kd.fresh' (Kd.R_lt (RU HO186.out)) k_ hk)); (case aO => exact (by (with_reducible repeat (first | apply Kd.R_alloc | apply Kd.R_drewN | apply Kd.R_drew)); exact Kd.R_mono HO_4.out (fun _ hk => hk.2))); (case aS => exact (sizG HB.out GE182.out)); (case aL => have := LMc38.out; omega); intro v188 w41 ho hb hg hat; rw [← Ny187.out] at ho; have n0_ := Aside0.mk (blk_grown (g := gb182) (o := .cells #[.int .i64 ((rd_T84 l0 x5_1).f0), .int .i64 ((rd_T84 l0 x5_1).f1), .int .i64 ((rd_T84 l0 x5_1).f2), .string ((rd_T84 l0 x5_1).f3)] 84 (0, 0)) (blkU BK182.out) hg (Kd.R_ne HO_4.out BK182.out (by decide))); have n1_ := Aside0.mk (Kd.R_after (ok := (fun _ => True)) (RU HO186.out) hg hat); have n2_ := Aside0.mk (hb); have n3_ := Aside0.mk (ho); clear BK182; clear HO186; clear HB; clear HO_4; have BK182 := n0_; have HO186 := n1_; have HB := n2_; have HO189 := n3_; clear n0_ n1_ n2_ n3_; clear ho hb hg hat))
                            repeat (go_quiet (first | (go_at_call 55; (with_reducible refine (aquiferref04_bytes.calls kj3 ((rd_T84 l0 x5_1).f0) ((rd_T84 l0 x5_1).f1) ((rd_T84 l0 x5_1).f2) ((rd_T84 l0 x5_1).f3) t184 _ A37.out).mono ?_); rintro e w40 ⟨v185, rfl, ho0, hb⟩; have n0_ := Aside0.mk (Kd.R_elder' (RU HO_4.out) (Kd.R_base ho0) hb); have n1_ := Aside0.mk (Kd.R_lower (Kd.R_new' ho0 (Kd.R_lt (RU HO_4.out))) (sizG HB.out GE182.out)); have n2_ := Aside0.mk (blk_below (blkU BK182.out) hb); have n3_ := Aside0.mk (below_step (belG HB.out GE182.out) hb); clear HO_4; clear BK182; clear HB; have HO_4 := n0_; have HO186 := n1_; have BK182 := n2_; have HB := n3_; clear n0_ n1_ n2_ n3_; (try clear hb); (try clear hb2); (try clear hk); (try clear hi); (try clear ho0); obtain ⟨Ao42, co42, eo42⟩ := Kd.R_slice HO186.out; subst eo42) | ((with_reducible refine gate_builtin (b := .append) (xs := #[.tmp 82, .tmp 84]) rfl ?_); at_builtin; refine Kd.R_append_rows (Kd.int .u8) (w0 := w) w.heap.size rfl (.tmp 82) (.tmp 84) 38 5 (.int .u8 0) 1 rfl Try.underlying38 info5 rfl (by decide) (by omega) u4 x4_1 t184 _ _ _ (fun k_ => some k_ ≠ (.slice Ao42 t184.length co42 : Value).ownBlock) (fun _ => False) rfl rfl ?aO ?aR (fun _ _ h => h) (fun _ h => h.elim) ?aF ?aB ?aS ?aL ?_; (case aR => exact CU (Kd.R_reads' HO186.out).2.2); (case aB => exact (belG HB.out GE182.out)); (case aF => exact (fun k_ hk => Kd.fresh' (Kd.R_lt (RU HO186.out)) k_ hk)); (case aO => exact (by (with_reducible repeat (first | apply Kd.R_alloc | apply Kd.R_drewN | apply Kd.R_drew)); exact Kd.R_mono HO_4.out (fun _ hk => hk.2))); (case aS => exact (sizG HB.out GE182.out)); (case aL => have := LMc38.out; omega); intro v188 w41 ho hb hg hat; rw [← Ny187.out] at ho; have n0_ := Aside0.mk (blk_grown (g := gb182) (o := .cells #[.int .i64 ((rd_T84 l0 x5_1).f0), .int .i64 ((rd_T84 l0 x5_1).f1), .int .i64 ((rd_T84 l0 x5_1).f2), .string ((rd_T84 l0 x5_1).f3)] 84 (0, 0)) (blkU BK182.out) hg (Kd.R_ne HO_4.out BK182.out (by decide))); have n1_ := Aside0.mk (Kd.R_after (ok := (fun _ => True)) (RU HO186.out) hg hat); have n2_ := Aside0.mk (hb); have n3_ := Aside0.mk (ho); clear BK182; clear HO186; clear HB; clear HO_4; have BK182 := n0_; have HO186 := n1_; have HB := n2_; have HO189 := n3_; clear n0_ n1_ n2_ n3_; clear ho hb hg hat)); try go_wp2_with (first | (go_at_call 55; (with_reducible refine (aquiferref04_bytes.calls kj3 ((rd_T84 l0 x5_1).f0) ((rd_T84 l0 x5_1).f1) ((rd_T84 l0 x5_1).f2) ((rd_T84 l0 x5_1).f3) t184 _ A37.out).mono ?_); rintro e w40 ⟨v185, rfl, ho0, hb⟩; have n0_ := Aside0.mk (Kd.R_elder' (RU HO_4.out) (Kd.R_base ho0) hb); have n1_ := Aside0.mk (Kd.R_lower (Kd.R_new' ho0 (Kd.R_lt (RU HO_4.out))) (sizG HB.out GE182.out)); have n2_ := Aside0.mk (blk_below (blkU BK182.out) hb); have n3_ := Aside0.mk (below_step (belG HB.out GE182.out) hb); clear HO_4; clear BK182; clear HB; have HO_4 := n0_; have HO186 := n1_; have BK182 := n2_; have HB := n3_; clear n0_ n1_ n2_ n3_; (try clear hb); (try clear hb2); (try clear hk); (try clear hi); (try clear ho0); obtain ⟨Ao42, co42, eo42⟩ := Kd.R_slice HO186.out; subst eo42) | ((with_reducible refine gate_builtin (b := .append) (xs := #[.tmp 82, .tmp 84]) rfl ?_); at_builtin; refine Kd.R_append_rows (Kd.int .u8) (w0 := w) w.heap.size rfl (.tmp 82) (.tmp 84) 38 5 (.int .u8 0) 1 rfl Try.underlying38 info5 rfl (by decide) (by omega) u4 x4_1 t184 _ _ _ (fun k_ => some k_ ≠ (.slice Ao42 t184.length co42 : Value).ownBlock) (fun _ => False) rfl rfl ?aO ?aR (fun _ _ h => h) (fun _ h => h.elim) ?aF ?aB ?aS ?aL ?_; (case aR => exact CU (Kd.R_reads' HO186.out).2.2); (case aB => exact (belG HB.out GE182.out)); (case aF => exact (fun k_ hk => Kd.fresh' (Kd.R_lt (RU HO186.out)) k_ hk)); (case aO => exact (by (with_reducible repeat (first | apply Kd.R_alloc | apply Kd.R_drewN | apply Kd.R_drew)); exact Kd.R_mono HO_4.out (fun _ hk => hk.2))); (case aS => exact (sizG HB.out GE182.out)); (case aL => have := LMc38.out; omega); intro v188 w41 ho hb hg hat; rw [← Ny187.out] at ho; have n0_ := Aside0.mk (blk_grown (g := gb182) (o := .cells #[.int .i64 ((rd_T84 l0 x5_1).f0), .int .i64 ((rd_T84 l0 x5_1).f1), .int .i64 ((rd_T84 l0 x5_1).f2), .string ((rd_T84 l0 x5_1).f3)] 84 (0, 0)) (blkU BK182.out) hg (Kd.R_ne HO_4.out BK182.out (by decide))); have n1_ := Aside0.mk (Kd.R_after (ok := (fun _ => True)) (RU HO186.out) hg hat); have n2_ := Aside0.mk (hb); have n3_ := Aside0.mk (ho); clear BK182; clear HO186; clear HB; clear HO_4; have BK182 := n0_; have HO186 := n1_; have HB := n2_; have HO189 := n3_; clear n0_ n1_ n2_ n3_; clear ho hb hg hat)))
                            go_roundg kj3
                            case measure => have := HK1.out; have := HJ3.out; omega
                            case rel => exact ⟨(y187), (wrap64 (x5_1 + 1)), (by first | rfl | (simp; done) | (simp [*]; done)), H', ⟨by have := HK1.out; have := HJ3.out; omega⟩, ⟨by (with_reducible repeat (first | apply Kd.R_alloc | apply Kd.R_drewN | apply Kd.R_drew)); exact Kd.R_mono HO189.out (fun _ hk => trivial)⟩, ⟨belG HB.out GE182.out⟩⟩
                          · rw [if_neg c38] at H
                            exact absurd H (by simp)
                      · rw [if_neg c34] at H
                        exact absurd H (by simp)
                    · rw [if_neg c33] at H
                      exact absurd H (by simp)
                  · rw [if_neg c31] at H
                    have c31b0 : decide (0 < x5_1) = false := decide_eq_false c31
                    clear c31
                    replace H := Option.bind_eq_some_iff.mp H
                    obtain ⟨t190, A430, H⟩ := H
                    replace H : (if x4_1.length + t190.length < 140737488355328 then (aquiferref04_Encode.l0 kj3 l0 (x4_1 ++ t190) (wrap64 (x5_1 + 1))) else (none)) = some (r1, r2) := H
                    have A43 := Aside0.mk A430
                    clear A430
                    by_cases c44 : x4_1.length + t190.length < 140737488355328
                    · rw [if_pos c44] at H
                      have LMc44 := Aside0.mk c44
                      clear c44
                      obtain ⟨y193, hy193⟩ : ∃ y_ : List Int, y_ = (x4_1 ++ t190) := ⟨_, rfl⟩
                      replace H : (aquiferref04_Encode.l0 kj3 l0 y193 (wrap64 (x5_1 + 1))) = some (r1, r2) := by first | (rw [hy193]; with_reducible exact H) | (have H2_ := (Option.bind_some _ _).symm.trans H; rw [hy193]; with_reducible exact H2_) | (have H2_ := (Option.bind_some _ _).symm.trans H; with_reducible exact H2_) | with_reducible exact H | (rw [hy193]; exact H) | exact H
                      have Ny193 := Aside0.mk hy193
                      clear hy193
                      have H' := Aside0.mk H
                      clear H
                      have hcz45_0 : wc.cell? ⟨gb182, 0, none⟩ = some (.int .i64 ((rd_T84 l0 x5_1).f0)) := (blk_cell BK182.out 0).trans rfl
                      have hcz45_1 : wc.cell? ⟨gb182, 1, none⟩ = some (.int .i64 ((rd_T84 l0 x5_1).f1)) := (blk_cell BK182.out 1).trans rfl
                      have hcz45_2 : wc.cell? ⟨gb182, 2, none⟩ = some (.int .i64 ((rd_T84 l0 x5_1).f2)) := (blk_cell BK182.out 2).trans rfl
                      have hcz45_3 : wc.cell? ⟨gb182, 3, none⟩ = some (.string ((rd_T84 l0 x5_1).f3)) := (blk_cell BK182.out 3).trans rfl
                      have hfz45_0 := blk_frozen BK182.out 0
                      have hfz45_1 := blk_frozen BK182.out 1
                      have hfz45_2 := blk_frozen BK182.out 2
                      have hfz45_3 := blk_frozen BK182.out 3
                      go_wp2_with (first | (go_at_call 55; (with_reducible refine (aquiferref04_bytes.calls kj3 ((rd_T84 l0 x5_1).f0) ((rd_T84 l0 x5_1).f1) ((rd_T84 l0 x5_1).f2) ((rd_T84 l0 x5_1).f3) t190 _ A43.out).mono ?_); rintro e w46 ⟨v191, rfl, ho0, hb⟩; have n0_ := Aside0.mk (Kd.R_elder' (RU HO_4.out) (Kd.R_base ho0) hb); have n1_ := Aside0.mk (Kd.R_lower (Kd.R_new' ho0 (Kd.R_lt (RU HO_4.out))) (sizG HB.out GE182.out)); have n2_ := Aside0.mk (blk_below (blkU BK182.out) hb); have n3_ := Aside0.mk (below_step (belG HB.out GE182.out) hb); clear HO_4; clear BK182; clear HB; have HO_4 := n0_; have HO192 := n1_; have BK182 := n2_; have HB := n3_; clear n0_ n1_ n2_ n3_; (try clear hb); (try clear hb2); (try clear hk); (try clear hi); (try clear ho0); obtain ⟨Ao48, co48, eo48⟩ := Kd.R_slice HO192.out; subst eo48) | ((with_reducible refine gate_builtin (b := .append) (xs := #[.tmp 82, .tmp 84]) rfl ?_); at_builtin; refine Kd.R_append_rows (Kd.int .u8) (w0 := w) w.heap.size rfl (.tmp 82) (.tmp 84) 38 5 (.int .u8 0) 1 rfl Try.underlying38 info5 rfl (by decide) (by omega) u4 x4_1 t190 _ _ _ (fun k_ => some k_ ≠ (.slice Ao48 t190.length co48 : Value).ownBlock) (fun _ => False) rfl rfl ?aO ?aR (fun _ _ h => h) (fun _ h => h.elim) ?aF ?aB ?aS ?aL ?_; (case aR => exact CU (Kd.R_reads' HO192.out).2.2); (case aB => exact (belG HB.out GE182.out)); (case aF => exact (fun k_ hk => Kd.fresh' (Kd.R_lt (RU HO192.out)) k_ hk)); (case aO => exact (by (with_reducible repeat (first | apply Kd.R_alloc | apply Kd.R_drewN | apply Kd.R_drew)); exact Kd.R_mono HO_4.out (fun _ hk => hk.2))); (case aS => exact (sizG HB.out GE182.out)); (case aL => have := LMc44.out; omega); intro v194 w47 ho hb hg hat; rw [← Ny193.out] at ho; have n0_ := Aside0.mk (blk_grown (g := gb182) (o := .cells #[.int .i64 ((rd_T84 l0 x5_1).f0), .int .i64 ((rd_T84 l0 x5_1).f1), .int .i64 ((rd_T84 l0 x5_1).f2), .string ((rd_T84 l0 x5_1).f3)] 84 (0, 0)) (blkU BK182.out) hg (Kd.R_ne HO_4.out BK182.out (by decide))); have n1_ := Aside0.mk (Kd.R_after (ok := (fun _ => True)) (RU HO192.out) hg hat); have n2_ := Aside0.mk (hb); have n3_ := Aside0.mk (ho); clear BK182; clear HO192; clear HB; clear HO_4; have BK182 := n0_; have HO192 := n1_; have HB := n2_; have HO195 := n3_; clear n0_ n1_ n2_ n3_; clear ho hb hg hat))
                      repeat (go_quiet (first | (go_at_call 55; (with_reducible refine (aquiferref04_bytes.calls kj3 ((rd_T84 l0 x5_1).f0) ((rd_T84 l0 x5_1).f1) ((rd_T84 l0 x5_1).f2) ((rd_T84 l0 x5_1).f3) t190 _ A43.out).mono ?_); rintro e w46 ⟨v191, rfl, ho0, hb⟩; have n0_ := Aside0.mk (Kd.R_elder' (RU HO_4.out) (Kd.R_base ho0) hb); have n1_ := Aside0.mk (Kd.R_lower (Kd.R_new' ho0 (Kd.R_lt (RU HO_4.out))) (sizG HB.out GE182.out)); have n2_ := Aside0.mk (blk_below (blkU BK182.out) hb); have n3_ := Aside0.mk (below_step (belG HB.out GE182.out) hb); clear HO_4; clear BK182; clear HB; have HO_4 := n0_; have HO192 := n1_; have BK182 := n2_; have HB := n3_; clear n0_ n1_ n2_ n3_; (try clear hb); (try clear hb2); (try clear hk); (try clear hi); (try clear ho0); obtain ⟨Ao48, co48, eo48⟩ := Kd.R_slice HO192.out; subst eo48) | ((with_reducible refine gate_builtin (b := .append) (xs := #[.tmp 82, .tmp 84]) rfl ?_); at_builtin; refine Kd.R_append_rows (Kd.int .u8) (w0 := w) w.heap.size rfl (.tmp 82) (.tmp 84) 38 5 (.int .u8 0) 1 rfl Try.underlying38 info5 rfl (by decide) (by omega) u4 x4_1 t190 _ _ _ (fun k_ => some k_ ≠ (.slice Ao48 t190.length co48 : Value).ownBlock) (fun _ => False) rfl rfl ?aO ?aR (fun _ _ h => h) (fun _ h => h.elim) ?aF ?aB ?aS ?aL ?_; (case aR => exact CU (Kd.R_reads' HO192.out).2.2); (case aB => exact (belG HB.out GE182.out)); (case aF => exact (fun k_ hk => Kd.fresh' (Kd.R_lt (RU HO192.out)) k_ hk)); (case aO => exact (by (with_reducible repeat (first | apply Kd.R_alloc | apply Kd.R_drewN | apply Kd.R_drew)); exact Kd.R_mono HO_4.out (fun _ hk => hk.2))); (case aS => exact (sizG HB.out GE182.out)); (case aL => have := LMc44.out; omega); intro v194 w47 ho hb hg hat; rw [← Ny193.out] at ho; have n0_ := Aside0.mk (blk_grown (g := gb182) (o := .cells #[.int .i64 ((rd_T84 l0 x5_1).f0), .int .i64 ((rd_T84 l0 x5_1).f1), .int .i64 ((rd_T84 l0 x5_1).f2), .string ((rd_T84 l0 x5_1).f3)] 84 (0, 0)) (blkU BK182.out) hg (Kd.R_ne HO_4.out BK182.out (by decide))); have n1_ := Aside0.mk (Kd.R_after (ok := (fun _ => True)) (RU HO192.out) hg hat); have n2_ := Aside0.mk (hb); have n3_ := Aside0.mk (ho); clear BK182; clear HO192; clear HB; clear HO_4; have BK182 := n0_; have HO192 := n1_; have HB := n2_; have HO195 := n3_; clear n0_ n1_ n2_ n3_; clear ho hb hg hat)); try go_wp2_with (first | (go_at_call 55; (with_reducible refine (aquiferref04_bytes.calls kj3 ((rd_T84 l0 x5_1).f0) ((rd_T84 l0 x5_1).f1) ((rd_T84 l0 x5_1).f2) ((rd_T84 l0 x5_1).f3) t190 _ A43.out).mono ?_); rintro e w46 ⟨v191, rfl, ho0, hb⟩; have n0_ := Aside0.mk (Kd.R_elder' (RU HO_4.out) (Kd.R_base ho0) hb); have n1_ := Aside0.mk (Kd.R_lower (Kd.R_new' ho0 (Kd.R_lt (RU HO_4.out))) (sizG HB.out GE182.out)); have n2_ := Aside0.mk (blk_below (blkU BK182.out) hb); have n3_ := Aside0.mk (below_step (belG HB.out GE182.out) hb); clear HO_4; clear BK182; clear HB; have HO_4 := n0_; have HO192 := n1_; have BK182 := n2_; have HB := n3_; clear n0_ n1_ n2_ n3_; (try clear hb); (try clear hb2); (try clear hk); (try clear hi); (try clear ho0); obtain ⟨Ao48, co48, eo48⟩ := Kd.R_slice HO192.out; subst eo48) | ((with_reducible refine gate_builtin (b := .append) (xs := #[.tmp 82, .tmp 84]) rfl ?_); at_builtin; refine Kd.R_append_rows (Kd.int .u8) (w0 := w) w.heap.size rfl (.tmp 82) (.tmp 84) 38 5 (.int .u8 0) 1 rfl Try.underlying38 info5 rfl (by decide) (by omega) u4 x4_1 t190 _ _ _ (fun k_ => some k_ ≠ (.slice Ao48 t190.length co48 : Value).ownBlock) (fun _ => False) rfl rfl ?aO ?aR (fun _ _ h => h) (fun _ h => h.elim) ?aF ?aB ?aS ?aL ?_; (case aR => exact CU (Kd.R_reads' HO192.out).2.2); (case aB => exact (belG HB.out GE182.out)); (case aF => exact (fun k_ hk => Kd.fresh' (Kd.R_lt (RU HO192.out)) k_ hk)); (case aO => exact (by (with_reducible repeat (first | apply Kd.R_alloc | apply Kd.R_drewN | apply Kd.R_drew)); exact Kd.R_mono HO_4.out (fun _ hk => hk.2))); (case aS => exact (sizG HB.out GE182.out)); (case aL => have := LMc44.out; omega); intro v194 w47 ho hb hg hat; rw [← Ny193.out] at ho; have n0_ := Aside0.mk (blk_grown (g := gb182) (o := .cells #[.int .i64 ((rd_T84 l0 x5_1).f0), .int .i64 ((rd_T84 l0 x5_1).f1), .int .i64 ((rd_T84 l0 x5_1).f2), .string ((rd_T84 l0 x5_1).f3)] 84 (0, 0)) (blkU BK182.out) hg (Kd.R_ne HO_4.out BK182.out (by decide))); have n1_ := Aside0.mk (Kd.R_after (ok := (fun _ => True)) (RU HO192.out) hg hat); have n2_ := Aside0.mk (hb); have n3_ := Aside0.mk (ho); clear BK182; clear HO192; clear HB; clear HO_4; have BK182 := n0_; have HO192 := n1_; have HB := n2_; have HO195 := n3_; clear n0_ n1_ n2_ n3_; clear ho hb hg hat)))
                      go_roundg kj3
                      case measure => have := HK1.out; have := HJ3.out; omega
                      case rel => exact ⟨(y193), (wrap64 (x5_1 + 1)), (by first | rfl | (simp; done) | (simp [*]; done)), H', ⟨by have := HK1.out; have := HJ3.out; omega⟩, ⟨by (with_reducible repeat (first | apply Kd.R_alloc | apply Kd.R_drewN | apply Kd.R_drew)); exact Kd.R_mono HO195.out (fun _ hk => trivial)⟩, ⟨belG HB.out GE182.out⟩⟩
                    · rw [if_neg c44] at H
                      exact absurd H (by simp)
        · rw [if_neg c3] at H
          exact absurd H (by simp)
      · rw [if_neg c2] at H
        have c2b0 : decide (x5_1 < (l0.length : Int)) = false := decide_eq_false c2
        clear c2
        by_cases c49 : (x4_1.length : Int) > 65536
        · rw [if_pos c49] at H
          have c49b0 : decide (65536 < (x4_1.length : Int)) = true := decide_eq_true c49
          have c49b1 : decide (65536 < x4_1.length) = true := decide_eq_true (by omega)
          clear c49
          simp only [Option.some.injEq, Prod.mk.injEq] at H
          obtain ⟨rfl, rfl⟩ := H
          obtain ⟨Ao50, co50, eo50⟩ := Kd.R_slice HO_4.out
          subst eo50
          go_wp2
          repeat (go_quiet (fail); try go_wp2)
          go_ret2
          exact ⟨by first | rfl | (simp [errW_none, errW_some] <;> rfl) | (simp [*, errW_none, errW_some] <;> rfl), belU HB.out⟩
        · rw [if_neg c49] at H
          have c49b0 : decide (65536 < (x4_1.length : Int)) = false := decide_eq_false c49
          have c49b1 : decide (65536 < x4_1.length) = false := decide_eq_false (by omega)
          clear c49
          simp only [Option.some.injEq, Prod.mk.injEq] at H
          obtain ⟨rfl, rfl⟩ := H
          obtain ⟨Ao51, co51, eo51⟩ := Kd.R_slice HO_4.out
          subst eo51
          have hcv52 := own_string (P := Try.prog) Try.underlying38 Try.underlying5 Try.underlying9 (Kd.own_of_R HO_4.out)
          go_wp2
          repeat (go_quiet (fail); try go_wp2)
          go_ret2
          exact ⟨by first | rfl | (simp [errW_none, errW_some] <;> rfl) | (simp [*, errW_none, errW_some] <;> rfl), belU HB.out⟩

end Go.Proofs.Ytjaneipklpgnlaa.Q

namespace Go.Proofs.Ytjaneipklpgnlaa.Q
open Go Go.RowKit Go.Proofs.YtjaneipklpgnlaaW.PrintWords Go.Proofs.YtjaneipklpgnlaaW.PrintLast Go.Proofs.YtjaneipklpgnlaaW.PrintMore
set_option linter.unusedSimpArgs false
set_option linter.unusedVariables false
/-! ### What a record's bytes are. -/
def bad (f : S84) : Prop := f.f0 < 1 ∨ f.f0 > 63 ∨ ¬ ((f.f1 = 0 ∧ f.f3.toList = [] ∧ 0 ≤ f.f2 ∧ f.f2 ≤ 4611686018427387904) ∨ (f.f1 = 1 ∧ f.f2 = 0))
instance (f : S84) : Decidable (bad f) := by unfold bad; infer_instance
def fault (f : S84) (ahead : Int) : Int := if bad f then 2 else if (f.f3.size : Int) > 4096 then 3 else if f.f0 < ahead then 9 else 0
def numBf : Nat → Nat → List Int
  | 0, n => [(n : Int)]
  | j + 1, n => if n < 128 then [(n : Int)] else ((128 + n % 128 : Nat) : Int) :: numBf j (n / 128)
def numB (n : Nat) : List Int := numBf 9 n
def fldB (f : S84) : List Int := (2 * f.f0 + f.f1) :: (if f.f1 = 0 then numB f.f2.toNat else numB f.f3.size ++ bytesOf f.f3)
def encGo : List S84 → Int → List Int → ByteArray × Int
  | [], _, b => if (b.length : Int) > 65536 then (⟨#[]⟩, 3) else (strOfNums b, 0)
  | f :: l, ahead, b => if fault f ahead = 0 then encGo l f.f0 (b ++ fldB f) else (⟨#[]⟩, fault f ahead)
theorem numBf_len (j n : Nat) : (numBf j n).length ≤ j + 1 := by
  induction j generalizing n with
  | zero => exact Nat.le_refl _
  | succ j ih =>
    unfold numBf
    split
    · simp
    · have := ih (n / 128)
      simp
      omega
theorem numB_len (n : Nat) : (numB n).length ≤ 10 := numBf_len 9 n
theorem numBf_more (j n : Nat) (h : n < 128 ^ (j + 1)) : numBf (j + 1) n = numBf j n := by
  induction j generalizing n with
  | zero =>
    simp at h
    show (if n < 128 then _ else _) = _
    rw [if_pos h]
    rfl
  | succ j ih =>
    show (if n < 128 then [(n : Int)] else ((128 + n % 128 : Nat) : Int) :: numBf (j + 1) (n / 128)) = (if n < 128 then [(n : Int)] else ((128 + n % 128 : Nat) : Int) :: numBf j (n / 128))
    rw [ih (n / 128) (by rw [Nat.pow_succ] at h; exact Nat.div_lt_of_lt_mul (by rw [Nat.mul_comm]; exact h))]
theorem fldB_len (f : S84) (h : (f.f3.size : Int) ≤ 4096) : (fldB f).length ≤ 4107 := by
  unfold fldB
  have h1 := numB_len f.f2.toNat
  have h2 := numB_len f.f3.size
  split
  · simp; omega
  · rw [List.length_cons, List.length_append, bytesOf_length]
    omega
theorem fault_ok {f : S84} {ahead : Int} (h : fault f ahead = 0) : ¬ bad f ∧ (f.f3.size : Int) ≤ 4096 ∧ ahead ≤ f.f0 := by
  unfold fault at h
  split at h
  · cases h
  · split at h
    · cases h
    · split at h
      · cases h
      · exact ⟨by assumption, by omega, by omega⟩
/-! ### field.why, field.num -/
theorem toList_nil (s : ByteArray) : s.toList = [] ↔ s.size = 0 := by
  rw [ByteArray.toList_eq]
  constructor
  · intro h
    have : s.data.toList.length = 0 := by rw [h]; rfl
    simpa using this
  · intro h
    apply List.eq_nil_of_length_eq_zero
    simpa using h
theorem why_ok (k : Nat) (f : S84) (ahead : Int) : field_why.f (k + 3) f.f0 f.f1 f.f2 f.f3 ahead = some (fault f ahead) := by
  obtain ⟨t, kd, n, s⟩ := f
  simp only [field_why.f, field_why.j0, field_why.j1, field_why.j2, fault, bad]
  by_cases c1 : kd = 0
  · subst c1
    by_cases c2 : s.toList = []
    · by_cases c3 : n ≥ 0
      · by_cases c4 : n ≤ 4611686018427387904
        · by_cases c5 : t < 1
          · simp [c2, c3, c4, c5]
          · by_cases c6 : t > 63
            · simp [c2, c3, c4, c5, c6]
            · simp [c2, c3, c4, c5, c6]
              split <;> first | rfl | (split <;> rfl)
        · by_cases c5 : t < 1
          · simp [c2, c3, c4, c5]
          · by_cases c6 : t > 63 <;> simp [c2, c3, c4, c5, c6]
      · by_cases c5 : t < 1
        · simp [c2, c3, c5]
        · by_cases c6 : t > 63 <;> simp [c2, c3, c5, c6]
    · by_cases c5 : t < 1
      · simp [c2, c5]
      · by_cases c6 : t > 63 <;> simp [c2, c5, c6]
  · by_cases c2 : kd = 1
    · subst c2
      by_cases c3 : n = 0
      · subst c3
        by_cases c5 : t < 1
        · simp [c5]
        · by_cases c6 : t > 63
          · simp [c5, c6]
          · simp [c5, c6]
            split <;> first | rfl | (split <;> rfl)
      · by_cases c5 : t < 1
        · simp [c3, c5]
        · by_cases c6 : t > 63 <;> simp [c3, c5, c6]
    · by_cases c5 : t < 1
      · simp [c1, c2, c5]
      · by_cases c6 : t > 63 <;> simp [c1, c2, c5, c6]
theorem or128 (n : Nat) : bits .or .u8 ((n : Int) % 256) 128 = ((128 + n % 128 : Nat) : Int) := by
  have e : ((n : Int) % 256) = ((n % 256 : Nat) : Int) := by simp
  have h1 : n % 256 < 2 ^ 8 := Nat.mod_lt _ (by decide)
  have h := (bits_nat .u8 8 (by decide) (fun m h0 h1 => by rw [IntKind.wrap_u8]; omega) (n % 256) 128 h1 (by decide)).2
  have hd : ∀ a : Fin 256, a.val ||| 128 = 128 + a.val % 128 := by decide +kernel
  rw [e]
  have h2 := hd ⟨n % 256, h1⟩
  simp only at h2
  rw [h2] at h
  rw [show n % 128 = n % 256 % 128 by omega]
  exact h
theorem num_ok (j : Nat) : ∀ (n : Nat) (x : List Int) (k : Nat), n < 128 ^ (j + 1) → j < k → x.length + j + 1 < 140737488355328 → field_num.l0 k x (n : Int) = some (x ++ numBf j n) := by
  induction j with
  | zero =>
    intro n x k hn hk hx
    obtain ⟨k, rfl⟩ : ∃ m, k = m + 1 := ⟨k - 1, by omega⟩
    simp at hn
    simp only [field_num.l0, numBf]
    rw [if_neg (by omega), if_pos (by omega), Int.emod_eq_of_lt (by omega) (by omega)]
  | succ j ih =>
    intro n x k hn hk hx
    obtain ⟨k, rfl⟩ : ∃ m, k = m + 1 := ⟨k - 1, by omega⟩
    simp only [field_num.l0, numBf]
    by_cases c : n < 128
    · rw [if_neg (by omega), if_pos (by omega), if_pos c, Int.emod_eq_of_lt (by omega) (by omega)]
    · rw [if_pos (by omega), if_pos (by omega), if_neg c, or128, show ((n : Int) / 128) = ((n / 128 : Nat) : Int) by simp,
        ih (n / 128) _ k (by rw [Nat.pow_succ] at hn; exact Nat.div_lt_of_lt_mul (by rw [Nat.mul_comm]; exact hn)) (by omega) (by simp; omega)]
      simp
theorem p128 : (128 : Nat) ^ (9 + 1) = 1180591620717411303424 := by decide +kernel
theorem lt128 (m : Nat) (h : m ≤ 4611686018427387904) : m < 128 ^ (9 + 1) := by
  rw [p128]
  omega
theorem num_fn (k : Nat) (hk : 10 ≤ k) (n : Int) (h0 : 0 ≤ n) (hn : n ≤ 4611686018427387904) (x : List Int) (hx : x.length + 10 < 140737488355328) : field_num.f k x n = some (x ++ numB n.toNat) := by
  obtain ⟨m, rfl⟩ := Int.eq_ofNat_of_zero_le h0
  exact num_ok 9 m x k (lt128 m (by omega)) (by omega) (by omega)
theorem number_ok (j : Nat) : ∀ (n : Nat) (k : Nat), n < 128 ^ (j + 1) → n < 9223372036854775807 → j < 20 → j < k → aquiferref04_number.f k (n : Int) = some (numBf j n) := by
  induction j with
  | zero =>
    intro n k hn h63 hj hk
    obtain ⟨k, rfl⟩ : ∃ m, k = m + 1 := ⟨k - 1, by omega⟩
    simp at hn
    simp only [aquiferref04_number.f, numBf]
    rw [if_pos (by omega), Int.emod_eq_of_lt (by omega) (by omega)]
  | succ j ih =>
    intro n k hn h63 hj hk
    obtain ⟨k, rfl⟩ : ∃ m, k = m + 1 := ⟨k - 1, by omega⟩
    simp only [aquiferref04_number.f, numBf]
    by_cases c : n < 128
    · rw [if_pos (by omega), if_pos c, Int.emod_eq_of_lt (by omega) (by omega)]
    · have e1 : (wrap64 (128 + (n : Int).tmod 128)) % 256 = ((128 + n % 128 : Nat) : Int) := by
        rw [Int.tmod_eq_emod_of_nonneg (by omega)]
        unfold wrap64
        omega
      have e2 : wrap64 ((n : Int).tdiv 128) = ((n / 128 : Nat) : Int) := by
        rw [Int.tdiv_eq_ediv_of_nonneg (by omega)]
        unfold wrap64
        omega
      have hl := numBf_len j (n / 128)
      rw [if_neg (by omega), if_neg c, e1, e2, Option.bind_some, ih (n / 128) k (by rw [Nat.pow_succ] at hn; exact Nat.div_lt_of_lt_mul (by rw [Nat.mul_comm]; exact hn)) (by omega) (by omega) (by omega), Option.bind_some, if_pos (by simp; omega)]
      rfl
theorem number_fn (k : Nat) (hk : 10 ≤ k) (n : Int) (h0 : 0 ≤ n) (hn : n ≤ 4611686018427387904) : aquiferref04_number.f k n = some (numB n.toNat) := by
  obtain ⟨m, rfl⟩ := Int.eq_ofNat_of_zero_le h0
  exact number_ok 9 m k (lt128 m (by omega)) (by omega) (by omega) (by omega)
theorem head_byte {f : S84} (h : ¬ bad f) : (wrap64 ((wrap64 (2 * f.f0)) + f.f1)) % 256 = 2 * f.f0 + f.f1 := by
  unfold bad at h
  unfold wrap64
  omega
theorem bytes_fn (k : Nat) (hk : 10 ≤ k) (f : S84) (h : ¬ bad f) (hs : (f.f3.size : Int) ≤ 4096) : aquiferref04_bytes.f k f.f0 f.f1 f.f2 f.f3 = some (fldB f) := by
  have hb := head_byte h
  unfold bad at h
  unfold aquiferref04_bytes.f fldB
  rw [hb, Option.bind_some]
  have h1 := numB_len f.f2.toNat
  have h2 := numB_len f.f3.size
  by_cases c : f.f1 = 0
  · rw [if_pos c, if_pos c, number_fn k hk _ (by omega) (by omega), Option.bind_some, if_pos (by simp; omega)]
    rfl
  · rw [if_neg c, if_neg c, number_fn k hk _ (by omega) (by omega), Option.bind_some, Int.toNat_natCast, if_pos (by simp; omega), Option.bind_some, if_pos (by simp; omega)]
    rfl
/-! ### The loops -/
theorem rd_at (L : List S84) (i : Nat) (h : i < L.length) : rd_T84 L (i : Int) = L[i] := by simp [rd_T84, h]
theorem wrap_succ (i : Nat) (h : i < 9223372036854775807) : wrap64 ((i : Int) + 1) = ((i + 1 : Nat) : Int) := by unfold wrap64; omega
theorem drop_at (L : List S84) (i : Nat) (h : i < L.length) : L.drop i = L[i] :: L.drop (i + 1) := List.drop_eq_getElem_cons h
theorem enc_loop (L : List S84) (hL : L.length ≤ 1048576) (d : Nat) : ∀ (i : Nat) (b : List Int) (ahead : Int) (k : Nat), i + d = L.length → d + 12 ≤ k → b.length + d * 5000 ≤ 10000000000 →
    field_Encode.l0 k b ahead L (L.length : Int) (i : Int) = some (encGo (L.drop i) ahead b) := by
  induction d with
  | zero =>
    intro i b ahead k hi hk hb
    obtain ⟨k, rfl⟩ : ∃ m, k = m + 1 := ⟨k - 1, by omega⟩
    simp only [field_Encode.l0]
    rw [if_neg (by omega), List.drop_of_length_le (by omega)]
    unfold encGo
    split <;> rfl
  | succ d ih =>
    intro i b ahead k hi hk hb
    obtain ⟨k, rfl⟩ : ∃ m, k = m + 1 := ⟨k - 1, by omega⟩
    have hlt : i < L.length := by omega
    simp only [field_Encode.l0]
    rw [if_pos (by omega), if_pos (by omega), if_pos (by omega), rd_at L i hlt, drop_at L i hlt]
    generalize L[i] = f
    obtain ⟨k3, hk3⟩ : ∃ m, k = m + 3 := ⟨k - 3, by omega⟩
    rw [show field_why.f k f.f0 f.f1 f.f2 f.f3 ahead = some (fault f ahead) by rw [hk3]; exact why_ok k3 f ahead, Option.bind_some]
    by_cases c : fault f ahead = 0
    · obtain ⟨hbad, hs, _⟩ := fault_ok c
      rw [if_pos c, if_pos (by omega), Option.bind_some, head_byte hbad]
      have hb' := hbad
      unfold bad at hb'
      have h1 := numB_len f.f2.toNat
      have h2 := numB_len f.f3.size
      have h3 := fldB_len f hs
      have hg : encGo (f :: L.drop (i + 1)) ahead b = encGo (L.drop (i + 1)) f.f0 (b ++ fldB f) := by rw [encGo, if_pos c]
      rw [hg]
      by_cases c2 : f.f1 = 0
      · rw [if_pos c2, num_fn k (by omega) _ (by omega) (by omega) _ (by simp; omega), Option.bind_some, wrap_succ i (by omega)]
        have e : b ++ [2 * f.f0 + f.f1] ++ numB f.f2.toNat = b ++ fldB f := by unfold fldB; rw [if_pos c2]; simp
        rw [e]
        exact ih (i + 1) _ _ k (by omega) (by omega) (by rw [List.length_append]; omega)
      · rw [if_neg c2, num_fn k (by omega) _ (by omega) (by omega) _ (by simp; omega), Option.bind_some, Int.toNat_natCast, if_pos (by simp; omega), wrap_succ i (by omega)]
        have e : b ++ [2 * f.f0 + f.f1] ++ numB f.f3.size ++ bytesOf f.f3 = b ++ fldB f := by unfold fldB; rw [if_neg c2]; simp
        rw [e]
        exact ih (i + 1) _ _ k (by omega) (by omega) (by rw [List.length_append]; omega)
    · rw [if_neg c, encGo, if_neg c]
theorem enc_fn (L : List S84) (hL : L.length ≤ 1048576) (k : Nat) (hk : L.length + 12 ≤ k) : field_Encode.f k L = some (encGo L 0 []) := by
  have := enc_loop L hL L.length 0 [] 0 k (by omega) hk (by simp; omega)
  simpa [field_Encode.f] using this
/-- The reference's look at a field. -/
theorem ref_head (k : Nat) (L : List S84) (b : List Int) (i : Nat) (hlt : i < L.length) : aquiferref04_Encode.l0 (k + 1) L b (i : Int) = aquiferref04_Encode.j1 k L b (i : Int) (decide (bad L[i])) L[i].f0 L[i].f1 L[i].f2 L[i].f3 := by
  simp only [aquiferref04_Encode.l0]
  rw [if_pos (by omega), if_pos (by omega), rd_at L i hlt]
  generalize L[i] = f
  obtain ⟨t, kd, n, s⟩ := f
  simp only
  by_cases c1 : t < 1
  · rw [if_pos c1]; congr 1; symm; simp [bad, c1]
  · rw [if_neg c1]
    by_cases c2 : t > 63
    · rw [if_pos c2]; congr 1; symm; simp [bad, c2]
    · rw [if_neg c2]
      by_cases c3 : kd < 0
      · rw [if_pos c3]; congr 1; symm; simp [bad]; omega
      · rw [if_neg c3]
        by_cases c4 : kd > 1
        · rw [if_pos c4]; congr 1; symm; simp [bad]; omega
        · rw [if_neg c4]
          by_cases c5 : n < 0
          · rw [if_pos c5]; congr 1; symm; simp [bad]; omega
          · rw [if_neg c5]
            by_cases c6 : n > 4611686018427387904
            · rw [if_pos c6]; congr 1; symm; simp [bad]; omega
            · rw [if_neg c6]
              by_cases c7 : kd = 0
              · subst c7
                rw [if_pos rfl]
                by_cases c8 : s.toList = []
                · rw [if_pos c8, if_neg (by decide)]; congr 1; symm; simp [bad, c8]; omega
                · rw [if_neg c8]; congr 1; symm; simp [bad, c8]
              · rw [if_neg c7]
                have c9 : kd = 1 := by omega
                subst c9
                rw [if_pos rfl]
                congr 1
                by_cases c10 : n = 0
                · subst c10; simp [bad]; omega
                · simp [bad, c10]
theorem ref_loop (L : List S84) (hL : L.length ≤ 1048576) (d : Nat) : ∀ (i : Nat) (b : List Int) (ahead : Int) (k : Nat), i + d = L.length → 2 * d + 12 ≤ k → b.length + d * 5000 ≤ 10000000000 →
    (ahead = if h : 0 < i ∧ i - 1 < L.length then L[i - 1].f0 else 0) →
    aquiferref04_Encode.l0 k L b (i : Int) = some (encGo (L.drop i) ahead b) := by
  induction d with
  | zero =>
    intro i b ahead k hi hk hb ha
    obtain ⟨k, rfl⟩ : ∃ m, k = m + 1 := ⟨k - 1, by omega⟩
    simp only [aquiferref04_Encode.l0]
    rw [if_neg (by omega), List.drop_of_length_le (by omega)]
    unfold encGo
    split <;> rfl
  | succ d ih =>
    intro i b ahead k hi hk hb ha
    obtain ⟨k, rfl⟩ : ∃ m, k = m + 2 := ⟨k - 2, by omega⟩
    have hlt : i < L.length := by omega
    rw [ref_head (k + 1) L b i hlt, drop_at L i hlt]
    have hnext : ∀ b', b'.length + d * 5000 ≤ 10000000000 → aquiferref04_Encode.l0 k L b' (wrap64 ((i : Int) + 1)) = some (encGo (L.drop (i + 1)) L[i].f0 b') := by
      intro b' hb'
      rw [wrap_succ i (by omega)]
      exact ih (i + 1) b' L[i].f0 k (by omega) (by omega) hb' (by rw [dif_pos (by omega)]; rfl)
    simp only [aquiferref04_Encode.j1]
    by_cases c1 : bad L[i]
    · rw [if_pos (decide_eq_true c1)]
      have hf : fault L[i] ahead = 2 := by unfold fault; rw [if_pos c1]
      rw [encGo, hf, if_neg (by decide)]
    · rw [if_neg (by simp [c1])]
      by_cases c2 : (L[i].f3.size : Int) > 4096
      · rw [if_pos c2]
        have hf : fault L[i] ahead = 3 := by unfold fault; rw [if_neg c1, if_pos c2]
        rw [encGo, hf, if_neg (by decide)]
      · rw [if_neg c2]
        have hl := fldB_len L[i] (by omega)
        have go : ahead ≤ L[i].f0 → ((aquiferref04_bytes.f k L[i].f0 L[i].f1 L[i].f2 L[i].f3).bind fun t => (if b.length + t.length < 140737488355328 then (aquiferref04_Encode.l0 k L (b ++ t) (wrap64 ((i : Int) + 1))) else (none))) = some (encGo (L[i] :: L.drop (i + 1)) ahead b) := by
          intro hle
          have hf : fault L[i] ahead = 0 := by unfold fault; rw [if_neg c1, if_neg c2, if_neg (by omega)]
          rw [bytes_fn k (by omega) _ c1 (by omega), Option.bind_some, if_pos (by omega), hnext _ (by rw [List.length_append]; omega), encGo, if_pos hf]
        by_cases c3 : i = 0
        · subst c3
          have h0 : ahead = 0 := by rw [ha, dif_neg (by omega)]
          rw [if_neg (by omega)]
          refine go ?_
          unfold bad at c1
          omega
        · have hw : wrap64 ((i : Int) - 1) = ((i - 1 : Nat) : Int) := by unfold wrap64; omega
          have hlt1 : i - 1 < L.length := by omega
          have h0 : ahead = L[i - 1].f0 := by rw [ha, dif_pos ⟨by omega, hlt1⟩]
          rw [if_pos (by omega), hw, if_pos (by omega), if_pos (by omega), rd_at L (i - 1) hlt1]
          by_cases c4 : L[i].f0 < L[i - 1].f0
          · rw [if_pos c4]
            have hf : fault L[i] ahead = 9 := by unfold fault; rw [if_neg c1, if_neg c2, if_pos (by omega)]
            rw [encGo, hf, if_neg (by decide)]
          · rw [if_neg c4]
            exact go (by omega)
theorem ref_fn (L : List S84) (hL : L.length ≤ 1048576) (k : Nat) (hk : 2 * L.length + 12 ≤ k) : aquiferref04_Encode.f k L = some (encGo L 0 []) := by
  have := ref_loop L hL L.length 0 [] 0 k (by omega) (by omega) (by simp; omega) (by rw [dif_neg (by omega)])
  simpa [aquiferref04_Encode.f] using this
end Go.Proofs.Ytjaneipklpgnlaa.Q

section
namespace Go.Proofs.Ytjaneipklpgnlaa.Q
open Go Go.RowKit Go.Proofs.YtjaneipklpgnlaaW.PrintWords Go.Proofs.YtjaneipklpgnlaaW.PrintLast Go.Proofs.YtjaneipklpgnlaaW.PrintMore
theorem size_mkS (l : List UInt8) : (mkS l).size = l.length := rfl
theorem toList_mkS (l : List UInt8) : (mkS l).toList = l := by
  rw [ByteArray.toList_eq]
  simp [mkS]
theorem data_mkS (l : List UInt8) : (mkS l).data.toList = l := by simp [mkS]
theorem empty_mkS (c : UInt8) (l : List UInt8) : (mkS (c :: l)).toList.isEmpty = false := by rw [toList_mkS]; rfl
theorem drop_mkS (l : List UInt8) (n : Nat) : (mkS l).extract n (mkS l).size = mkS (l.drop n) := by
  apply ByteArray.ext
  apply Array.ext'
  rw [ByteArray.data_extract]
  simp only [mkS, Array.toList_extract, List.extract_eq_take_drop]
  rw [List.take_of_length_le (by rw [List.length_drop]; exact Nat.le_refl _)]
theorem take_mkS (l : List UInt8) (n : Nat) : (mkS l).extract 0 n = mkS (l.take n) := by
  apply ByteArray.ext
  apply Array.ext'
  rw [ByteArray.data_extract]
  simp [mkS]
theorem head_mkS (c : UInt8) (l : List UInt8) (h : 0 < (mkS (c :: l)).size) : (mkS (c :: l))[0]'h = c := rfl
theorem byte_nil (w : World) (b : Nat) (hc : w.cell? ⟨b, 0, none⟩ = some (.string (mkS []))) :
    Calls Try.prog 72 #[.pointer (some ⟨b, 0, none⟩)] w fun e w' => e = .returned (.tuple #[.int .u8 0, .bool false]) ∧ w' = w := by
  have h1 : (mkS []).toList.isEmpty = true := by rw [toList_mkS]; rfl
  go_enter Try.func72, Try.ntmps72
  go_wp2
  go_ret2
  exact ⟨rfl, rfl⟩
theorem byte_cons (w : World) (b : Nat) (c : UInt8) (t : List UInt8) (hc : w.cell? ⟨b, 0, none⟩ = some (.string (mkS (c :: t)))) (hf : w.frozen? ⟨b, 0, none⟩ = false) :
    Calls Try.prog 72 #[.pointer (some ⟨b, 0, none⟩)] w fun e w' => e = .returned (.tuple #[.int .u8 c.toNat, .bool true]) ∧ w' = w.setCell ⟨b, 0, none⟩ (.string (mkS t)) := by
  have h1 := empty_mkS c t
  have h2 : 0 < (mkS (c :: t)).size := by rw [size_mkS]; simp
  have h3 := Aside0.mk (drop_mkS (c :: t) 1)
  go_enter Try.func72, Try.ntmps72
  go_wp2
  go_ret2
  exact ⟨rfl, by rw [h3.out]; rfl⟩

/-- The rest of the bytes, in the block of a variable: what a call has left of it, and that all else stays. -/
structure Rst (w w' : World) (b : Nat) (l : List UInt8) : Prop where
  bel : Below b w w'
  keep : KeepBut w w' b none
  blk : w'.heap[b]? = some (.cells #[.string (mkS l)] 112 (0, 0))
theorem Rst.cell {w w' : World} {b : Nat} {l : List UInt8} (h : Rst w w' b l) : w'.cell? ⟨b, 0, none⟩ = some (.string (mkS l)) := (blk_cell h.blk 0).trans rfl
theorem Rst.free {w w' : World} {b : Nat} {l : List UInt8} (h : Rst w w' b l) : w'.frozen? ⟨b, 0, none⟩ = false := blk_frozen h.blk 0
theorem Rst.refl {w : World} {b : Nat} {l : List UInt8} (h : w.heap[b]? = some (.cells #[.string (mkS l)] 112 (0, 0))) : Rst w w b l := ⟨Below.refl _ _, KeepBut.refl _ _ _, h⟩
theorem Rst.set {w w' : World} {b : Nat} {l m : List UInt8} (h : Rst w w' b l) : Rst w (w'.setCell ⟨b, 0, none⟩ (.string (mkS m))) b m :=
  ⟨h.bel.setCell (p := ⟨b, 0, none⟩) (Nat.le_refl _) _, h.keep.set_ 0 _, blk_put h.blk 0 _ rfl⟩
theorem Rst.trans {w w1 w2 : World} {b : Nat} {l m : List UInt8} (h : Rst w w1 b l) (k : Rst w1 w2 b m) : Rst w w2 b m :=
  ⟨h.bel.trans k.bel, h.keep.trans k.keep (.inl rfl), k.blk⟩
/-- A byte is read. -/
theorem byte_any (w w1 : World) (b : Nat) (l : List UInt8) (h : Rst w w1 b l) :
    Calls Try.prog 72 #[.pointer (some ⟨b, 0, none⟩)] w1 fun e w' => e = .returned (.tuple #[.int .u8 (l.headD 0).toNat, .bool (!l.isEmpty)]) ∧ Rst w w' b l.tail := by
  cases l with
  | nil => exact (byte_nil w1 b h.cell).mono fun e w' ⟨he, hw⟩ => ⟨he, hw ▸ h⟩
  | cons c t => exact (byte_cons w1 b c t h.cell h.free).mono fun e w' ⟨he, hw⟩ => ⟨he, hw ▸ h.set⟩
end Go.Proofs.Ytjaneipklpgnlaa.Q
end
section
namespace Go.Proofs.Ytjaneipklpgnlaa.Q
open Go Go.RowKit Go.Proofs.YtjaneipklpgnlaaW.PrintWords Go.Proofs.YtjaneipklpgnlaaW.PrintLast Go.Proofs.YtjaneipklpgnlaaW.PrintMore
theorem pow7 (j : Nat) (hj : j < 9) : (2 : Nat) ^ (7 * j) ≤ 72057594037927936 := by
  have h : (2 : Nat) ^ (7 * j) ≤ 2 ^ 56 := Nat.pow_le_pow_right (by decide) (by omega)
  simpa using h
theorem p63 : (2 : Nat) ^ 63 = 9223372036854775808 := by decide +kernel
theorem wraps_i64 (n : Int) (h₀ : 0 ≤ n) (h₁ : n < 2 ^ 63) : IntKind.i64.wrap n = n := by rw [IntKind.wrap_i64]; omega
theorem or64 (a b : Nat) (ha : a < 9223372036854775808) (hb : b < 9223372036854775808) : bits .or .i64 (a : Int) (b : Int) = ((a ||| b : Nat) : Int) := by
  rw [← p63] at ha hb
  exact (bits_nat .i64 63 (by decide) wraps_i64 a b ha hb).2
theorem or_low (j a k : Nat) (ha : a < 2 ^ (7 * j)) : a ||| k * 2 ^ (7 * j) = a + k * 2 ^ (7 * j) := by
  rw [Nat.or_comm, Nat.mul_comm k, ← Nat.two_pow_add_eq_or_of_lt ha k, Nat.add_comm]
theorem and127 (c : UInt8) : bits .and .u8 (c.toNat : Int) 127 = ((c.toNat % 128 : Nat) : Int) := by
  have hc : c.toNat < 256 := c.toNat_lt
  have := bits_mask .u8 8 (by decide) wraps_u8 7 (by decide) (c.toNat : Int) (by omega) (by omega)
  simpa using this
theorem wrap64_nat (n : Nat) (h : n < 9223372036854775808) : wrap64 (n : Int) = (n : Int) := by unfold wrap64; omega
theorem pow7_succ (j : Nat) : (2 : Nat) ^ (7 * (j + 1)) = 128 * 2 ^ (7 * j) := by rw [show 7 * (j + 1) = 7 * j + 7 by omega, Nat.pow_add, Nat.mul_comm]
theorem num_core (a k q : Nat) (ha : a < q) (hk : k < 128) (hq : q ≤ 72057594037927936) (hor : a ||| k * q = a + k * q) :
    bits .or .i64 (a : Int) (wrap64 (wrap64 (k : Int) * (q : Int))) = ((a + k * q : Nat) : Int) ∧ a + k * q < 128 * q := by
  have h1 : k * q ≤ 127 * q := Nat.mul_le_mul_right _ (by omega)
  rw [wrap64_nat k (by omega), ← Int.natCast_mul, wrap64_nat (k * q) (by omega), or64 a (k * q) (by omega) (by omega), hor]
  exact ⟨rfl, by omega⟩
/-- What a byte of a number adds. -/
theorem num_step (j : Nat) (hj : j < 9) (m : Int) (h0 : 0 ≤ m) (h1 : m < 2 ^ (7 * j)) (c : UInt8) :
    bits .or .i64 m (wrap64 (wrap64 (bits .and .u8 (c.toNat : Int) 127) * 2 ^ (7 * j))) = m + ((c.toNat % 128 : Nat) : Int) * 2 ^ (7 * j) ∧
      0 ≤ m + ((c.toNat % 128 : Nat) : Int) * 2 ^ (7 * j) ∧ m + ((c.toNat % 128 : Nat) : Int) * 2 ^ (7 * j) < 2 ^ (7 * (j + 1)) := by
  obtain ⟨a, rfl⟩ := Int.eq_ofNat_of_zero_le h0
  have ha : a < 2 ^ (7 * j) := by exact_mod_cast h1
  have c2 : ((2 : Int) ^ (7 * j)) = ((2 ^ (7 * j) : Nat) : Int) := by simp
  have c3 : ((2 : Int) ^ (7 * (j + 1))) = ((2 ^ (7 * (j + 1)) : Nat) : Int) := by simp
  obtain ⟨e, hl⟩ := num_core a (c.toNat % 128) (2 ^ (7 * j)) ha (Nat.mod_lt _ (by decide)) (pow7 j hj) (or_low j a _ ha)
  rw [and127, c2, e, c3, pow7_succ, ← Int.natCast_mul, ← Int.natCast_add]
  exact ⟨rfl, Int.natCast_nonneg _, Int.ofNat_lt.mpr hl⟩
end Go.Proofs.Ytjaneipklpgnlaa.Q
end
section
namespace Go.Proofs.Ytjaneipklpgnlaa.Q
open Go Go.RowKit Go.Proofs.YtjaneipklpgnlaaW.PrintWords Go.Proofs.YtjaneipklpgnlaaW.PrintLast Go.Proofs.YtjaneipklpgnlaaW.PrintMore
theorem numR_nil (f sh : Nat) (m : Int) : numR (f + 1) sh m [] = ((0, false), []) := rfl
theorem numR_cons (f sh : Nat) (m : Int) (c : UInt8) (t : List UInt8) : numR (f + 1) sh m (c :: t) =
    if c < 128 then ((m + (c.toNat : Int) * 2 ^ sh, (decide (0 < c.toNat) || sh == 0) && decide (m + (c.toNat : Int) * 2 ^ sh ≤ 4611686018427387904)), t)
      else numR f (sh + 7) (m + ((c.toNat % 128 : Nat) : Int) * 2 ^ sh) t := rfl
set_option maxRecDepth 100000 in
theorem num_any (w w1 : World) (b : Nat) (l : List UInt8) (h : Rst w w1 b l) :
    Calls Try.prog 73 #[.pointer (some ⟨b, 0, none⟩)] w1 fun e w' => e = .returned (.tuple #[.int .i64 (numR 9 0 0 l).1.1, .bool (numR 9 0 0 l).1.2]) ∧ Rst w w' b (numR 9 0 0 l).2 := by
  have H0 := Aside0.mk h
  clear h
  go_enter Try.func73, Try.ntmps73
  go_wp2
  go_loopw [4, 5] (fun n sh wr => ∃ (j : Nat) (m : Int) (l' : List UInt8), j ≤ 9 ∧ n = .int .i64 m ∧ sh = .int .i64 (7 * (j : Int)) ∧ Aside0 (0 ≤ m ∧ m < 2 ^ (7 * j)) ∧ Aside0 (numR (9 - j) (7 * j) m l' = numR 9 0 0 l) ∧ Aside0 (Rst w wr b l')) (fun _ sh _ => 63 - (intOf sh).toNat)
  case atStart => exact ⟨0, 0, l, by omega, rfl, rfl, ⟨by decide⟩, ⟨rfl⟩, H0⟩
  case round =>
    obtain ⟨j, m, l', hj, rfl, rfl, HM, HN, HR⟩ := hrel
    by_cases hj9 : j < 9
    · cases l' with
      | nil =>
        go_wp2_with (go_at_call 72; refine (byte_any w _ b [] HR.out).mono ?_; rintro e w' ⟨rfl, HR'⟩)
        go_ret2
        rw [← HN.out, show 9 - j = (8 - j) + 1 by omega, numR_nil]
        exact ⟨rfl, HR'⟩
      | cons c t =>
        obtain ⟨e1, e2, e3⟩ := num_step j hj9 m HM.out.1 HM.out.2 c
        obtain ⟨x, hx⟩ : ∃ x, m + ((c.toNat % 128 : Nat) : Int) * 2 ^ (7 * j) = x := ⟨_, rfl⟩
        rw [hx] at e1 e2 e3
        have HX := Aside0.mk hx
        have HE := Aside0.mk e3
        clear hx e3
        by_cases hc : (c.toNat : Int) < 128
        · have hx' : x = m + (c.toNat : Int) * 2 ^ (7 * j) := by rw [← HX.out, Nat.mod_eq_of_lt (by omega)]
          have hN := HN.out
          rw [show 9 - j = (8 - j) + 1 by omega, numR_cons, if_pos (by rw [UInt8.lt_iff_toNat_lt]; show c.toNat < 128; omega), ← hx'] at hN
          have HN' := Aside0.mk hN
          clear hN hx' HX HN HE
          by_cases hc0 : 0 < c.toNat
          · have b1 : decide (0 < c.toNat) = true := decide_eq_true hc0
            by_cases hm : x ≤ 4611686018427387904
            all_goals
              go_wp2_with (go_at_call 72; refine (byte_any w _ b (c :: t) HR.out).mono ?_; rintro e w' ⟨rfl, HR'⟩)
              go_ret2
              rw [← HN'.out]
              exact ⟨by simp [hc0, hm], HR'⟩
          · have b1 : decide (0 < c.toNat) = false := decide_eq_false hc0
            have b2 : c.toNat = 0 := by omega
            have e0 : bits .or .i64 m (wrap64 (wrap64 (bits .and .u8 0 127) * 2 ^ (7 * j))) = x := by rw [← e1, b2]; rfl
            by_cases hj0 : j = 0
            · subst hj0
              have e9 : bits .or .i64 m (wrap64 (wrap64 (bits .and .u8 0 127))) = x := by simpa using e0
              by_cases hm : x ≤ 4611686018427387904
              all_goals
                go_wp2_with (go_at_call 72; refine (byte_any w _ b (c :: t) HR.out).mono ?_; rintro e w' ⟨rfl, HR'⟩)
                go_ret2
                rw [← HN'.out]
                exact ⟨by simp [hm], HR'⟩
            · go_wp2_with (go_at_call 72; refine (byte_any w _ b (c :: t) HR.out).mono ?_; rintro e w' ⟨rfl, HR'⟩)
              go_ret2
              rw [← HN'.out]
              exact ⟨by simp [b2]; omega, HR'⟩
        · go_wp2_with (go_at_call 72; refine (byte_any w _ b (c :: t) HR.out).mono ?_; rintro e w' ⟨rfl, HR'⟩)
          go_roundw
          case rel => exact ⟨j + 1, x, t, by omega, rfl, by go_num, ⟨e2, HE.out⟩, ⟨by rw [← HN.out, show 9 - j = (8 - j) + 1 by omega, numR_cons, if_neg (by rw [UInt8.lt_iff_toNat_lt]; show ¬ c.toNat < 128; omega), HX.out, show 9 - (j + 1) = 8 - j by omega]; rfl⟩, ⟨HR'⟩⟩
          case measure => simp [intOf]; omega
    · obtain rfl : j = 9 := by omega
      go_wp2
      go_ret2
      rw [← HN.out]
      exact ⟨rfl, HR.out⟩
end Go.Proofs.Ytjaneipklpgnlaa.Q
end
section
namespace Go.Proofs.Ytjaneipklpgnlaa.Q
open Go Go.RowKit Go.Proofs.YtjaneipklpgnlaaW.PrintWords Go.Proofs.YtjaneipklpgnlaaW.PrintLast Go.Proofs.YtjaneipklpgnlaaW.PrintMore
set_option linter.unusedSimpArgs false
set_option linter.unusedVariables false
theorem Rst.alloc {w w' : World} {b : Nat} {l : List UInt8} (h : Rst w w' b l) (o : Obj) : Rst w (w'.alloc o) b l :=
  ⟨h.bel.alloc (Nat.le_of_lt (blk_lt h.blk)) o, h.keep.trans (KeepBut.of_below ((Below.refl _ w').alloc (Nat.le_refl _) o) b none) (.inl rfl), blk_alloc h.blk o⟩
theorem Rst.self {w w' : World} {b : Nat} {l : List UInt8} (h : Rst w w' b l) : Rst w' w' b l := Rst.refl h.blk
theorem Rst.far {w w' : World} {b : Nat} {l : List UInt8} (h : Rst w w' b l) {g j : Nat} (hg : b < g) (hw : w.heap.size ≤ g) (u : Value) : Rst w (w'.setCell ⟨g, j, none⟩ u) b l :=
  ⟨h.bel.setCell (p := ⟨g, j, none⟩) (Nat.le_of_lt hg) _, ⟨by simpa [World.setCell] using h.keep.1, fun i hi hb hr => (Below.heap_setCell w' ⟨g, j, none⟩ u i (by show i ≠ g; omega)).trans (h.keep.2 i hi hb hr)⟩, blk_far h.blk (by show b ≠ g; omega) u⟩
theorem text_no (w : World) (b : Nat) (l : List UInt8) (n : Int) (h : Rst w w b l) (hn : (l.length : Int) < n ∨ 4096 < n) :
    Calls Try.prog 74 #[.pointer (some ⟨b, 0, none⟩), .int .i64 n] w fun e w' => e = .returned (.tuple #[.string (mkS []), .bool false]) ∧ w' = w := by
  have hc := h.cell
  have hs : (mkS l).size = l.length := rfl
  have hz : mkS [] = ⟨#[]⟩ := rfl
  rw [hz]
  clear hz h
  by_cases h1 : ((mkS l).size : Int) < n
  · have b1 : decide (((mkS l).size : Int) < n) = true := decide_eq_true h1
    clear hs
    go_enter Try.func74, Try.ntmps74
    go_wp2
    go_ret2
    exact ⟨rfl, rfl⟩
  · have h2 : 4096 < n := by omega
    have b1 : decide (((mkS l).size : Int) < n) = false := decide_eq_false h1
    have b2 : decide (4096 < n) = true := decide_eq_true h2
    clear hs
    go_enter Try.func74, Try.ntmps74
    go_wp2
    go_ret2
    exact ⟨rfl, rfl⟩
theorem text_yes (w : World) (b : Nat) (l : List UInt8) (n : Int) (h : Rst w w b l) (h0 : 0 ≤ n) (h1 : n ≤ l.length) (h2 : n ≤ 4096) :
    Calls Try.prog 74 #[.pointer (some ⟨b, 0, none⟩), .int .i64 n] w fun e w' => e = .returned (.tuple #[.string (mkS (l.take n.toNat)), .bool true]) ∧ w' = w.setCell ⟨b, 0, none⟩ (.string (mkS (l.drop n.toNat))) := by
  have hc := h.cell
  have hf := h.free
  have HT := Aside0.mk (take_mkS l n.toNat)
  have HD := Aside0.mk (drop_mkS l n.toNat)
  have h1' : n ≤ ((mkS l).size : Int) := h1
  have b1 : decide (((mkS l).size : Int) < n) = false := decide_eq_false (by omega)
  have b2 : decide (4096 < n) = false := decide_eq_false (by omega)
  have h3 : (0 ≤ n) = True := eq_true h0
  have h4 : (n ≤ ((mkS l).size : Int)) = True := eq_true h1'
  clear h h1
  go_enter Try.func74, Try.ntmps74
  go_wp2
  go_ret2
  exact ⟨by rw [HT.out]; rfl, by rw [HD.out]⟩
theorem text_any (w : World) (b : Nat) (l : List UInt8) (n : Int) (h : Rst w w b l) (h0 : 0 ≤ n) :
    Calls Try.prog 74 #[.pointer (some ⟨b, 0, none⟩), .int .i64 n] w fun e w' => e = .returned (.tuple #[.string (if n > (l.length : Int) ∨ n > 4096 then mkS [] else mkS (l.take n.toNat)), .bool (if n > (l.length : Int) ∨ n > 4096 then false else true)]) ∧
      Rst w w' b (if n > (l.length : Int) ∨ n > 4096 then l else l.drop n.toNat) := by
  by_cases hn : n > (l.length : Int) ∨ n > 4096
  · rw [if_pos hn, if_pos hn, if_pos hn]
    exact (text_no w b l n h hn).mono fun e w' ⟨he, hw⟩ => ⟨he, hw ▸ h⟩
  · rw [if_neg hn, if_neg hn, if_neg hn]
    exact (text_yes w b l n h h0 (by omega) (by omega)).mono fun e w' ⟨he, hw⟩ => ⟨he, hw ▸ h.set⟩
theorem numR_nonneg (f sh : Nat) (m : Int) (l : List UInt8) (h : 0 ≤ m) : 0 ≤ (numR f sh m l).1.1 := by
  induction f generalizing sh m l with
  | zero => exact Int.le_refl 0
  | succ f ih =>
    cases l with
    | nil => exact Int.le_refl 0
    | cons c t =>
      have hp : (0 : Int) ≤ 2 ^ sh := Int.pow_nonneg (by decide)
      rw [numR_cons]
      split
      · exact Int.add_nonneg h (Int.mul_nonneg (Int.natCast_nonneg _) hp)
      · exact ih _ _ _ (Int.add_nonneg h (Int.mul_nonneg (Int.natCast_nonneg _) hp))
theorem tag_of (c : UInt8) : wrap64 ((c.toNat : Int) / 2) = ((c.toNat / 2 : Nat) : Int) := by
  have := c.toNat_lt
  unfold wrap64
  omega
theorem kind_of (c : UInt8) : wrap64 (bits .and .u8 (c.toNat : Int) 1) = ((c.toNat % 2 : Nat) : Int) := by
  have hc : c.toNat < 256 := c.toNat_lt
  have h := bits_mask .u8 8 (by decide) wraps_u8 1 (by decide) (c.toNat : Int) (by omega) (by omega)
  have h2 : bits .and .u8 (c.toNat : Int) 1 = ((c.toNat % 2 : Nat) : Int) := by simpa using h
  rw [h2]
  unfold wrap64
  omega
theorem blk4 {w : World} {g t : Nat} {a b c d : Value} (h : w.heap[g]? = some (.cells #[a, b, c, d] t (0, 0))) :
    w.cell? ⟨g, 0, none⟩ = some a ∧ w.cell? ⟨g, 1, none⟩ = some b ∧ w.cell? ⟨g, 2, none⟩ = some c ∧ w.cell? ⟨g, 3, none⟩ = some d ∧ (∀ j, w.frozen? ⟨g, j, none⟩ = false) :=
  ⟨(blk_cell h 0).trans rfl, (blk_cell h 1).trans rfl, (blk_cell h 2).trans rfl, (blk_cell h 3).trans rfl, fun j => blk_frozen h j⟩
/-- A field is read. -/
theorem field_any (w : World) (b : Nat) (l : List UInt8) (h : Rst w w b l) :
    Calls Try.prog 68 #[.pointer (some ⟨b, 0, none⟩)] w fun e w' => e = .returned (.tuple #[.agg #[.int .i64 (fldR l).1.1.f0, .int .i64 (fldR l).1.1.f1, .int .i64 (fldR l).1.1.f2, .string (fldR l).1.1.f3], .bool (fldR l).1.2]) ∧ Rst w w' b (fldR l).2 := by
  have hb : b < w.heap.size := blk_lt h.blk
  have H0 := Aside0.mk h
  clear h
  obtain ⟨c, hc⟩ : ∃ c, l.headD 0 = c := ⟨_, rfl⟩
  obtain ⟨n, ok, rest, hnum⟩ : ∃ n ok rest, numR 9 0 0 l.tail = ((n, ok), rest) := ⟨_, _, _, rfl⟩
  obtain ⟨tg, htg⟩ : ∃ x : Int, ((c.toNat / 2 : Nat) : Int) = x := ⟨_, rfl⟩
  obtain ⟨kd, hkd⟩ : ∃ x : Int, ((c.toNat % 2 : Nat) : Int) = x := ⟨_, rfl⟩
  have et := tag_of c
  have ek := kind_of c
  rw [htg] at et
  rw [hkd] at ek
  have hn0 : 0 ≤ n := by have := numR_nonneg 9 0 0 l.tail (by decide); rw [hnum] at this; exact this
  have HF := Aside0.mk (show fldR l = if ok = false ∨ tg < 1 ∨ tg > 63 then ((⟨tg, kd, 0, mkS []⟩, false), rest)
    else if kd = 0 then ((⟨tg, kd, n, mkS []⟩, true), rest)
    else if n > (rest.length : Int) ∨ n > 4096 then ((⟨tg, kd, 0, mkS []⟩, false), rest)
    else ((⟨tg, kd, 0, mkS (rest.take n.toNat)⟩, true), rest.drop n.toNat) by
      unfold fldR
      simp only [hc, hnum, htg, hkd])
  have HB1 := fun W => byte_any W W b l
  rw [hc] at HB1
  have HN := fun W W1 => num_any W W1 b l.tail
  rw [hnum] at HN
  have HB := Aside0.mk HB1
  have HN1 := Aside0.mk HN
  clear hc hnum htg hkd HB1 HN
  go_enter Try.func68, Try.ntmps68
  go_wp2_with fail
  refine (HB.out _ (H0.out.alloc _).self).mono ?_
  rintro e w1 ⟨rfl, HR1⟩
  have HA := Aside0.mk HR1
  have hlt : w.heap.size < w1.heap.size := by have := HR1.keep.1; simp at this; omega
  clear HR1
  go_wp2_with fail
  refine (HN1.out _ _ (HA.out.alloc _).self).mono ?_
  rintro e w2 ⟨rfl, HR2⟩
  have hg2 := HR2.keep.blk (blk_new w1 _) (by omega) (by simp)
  have hg1 := HR2.keep.blk (blk_alloc (HA.out.keep.blk (blk_new w _) (by omega) (by simp)) _) (by omega) (by simp)
  obtain ⟨p0, p1, p2, p3, pf⟩ := blk4 hg2
  obtain ⟨q0, q1, q2, q3, qf⟩ := blk4 hg1
  have HC := Aside0.mk HR2
  have HG1 := Aside0.mk hg1
  have HG2 := Aside0.mk hg2
  clear HR2 hg1 hg2
  have HW := Aside0.mk ((((H0.out.alloc _).trans HA.out).alloc _).trans HC.out)
  have R1 := fun j u => HW.out.far (g := w.heap.size) (j := j) hb (Nat.le_refl _) u
  clear R1
  have hb2 : b < w1.heap.size := by omega
  cases ok with
  | false =>
    go_wp2_with fail
    refine bodyPost_ret (v := .tuple #[.agg #[.int .i64 tg, .int .i64 kd, .int .i64 0, .string ⟨#[]⟩], .bool false]) (by simp [results, Try.results68, go_sem, p0, p1, p2, p3, pf, q0, q1, q2, q3, qf]) rfl ⟨?_, ?_⟩
    · rw [HF.out, if_pos (show True ∨ tg < 1 ∨ tg > 63 from .inl trivial)]
      rfl
    · rw [HF.out, if_pos (show True ∨ tg < 1 ∨ tg > 63 from .inl trivial)]
      exact (((HW.out.far hb (Nat.le_refl _) _).far hb (Nat.le_refl _) _).far hb (Nat.le_refl _) _).far hb (Nat.le_refl _) _
  | true =>
    by_cases c1 : tg < 1
    · have d1 : decide (tg < 1) = true := decide_eq_true c1
      go_wp2_with fail
      refine bodyPost_ret (v := .tuple #[.agg #[.int .i64 tg, .int .i64 kd, .int .i64 0, .string ⟨#[]⟩], .bool false]) (by simp [results, Try.results68, go_sem, p0, p1, p2, p3, pf, q0, q1, q2, q3, qf]) rfl ⟨?_, ?_⟩
      · rw [HF.out, if_pos (.inr (.inl c1))]
        rfl
      · rw [HF.out, if_pos (.inr (.inl c1))]
        exact (((HW.out.far hb (Nat.le_refl _) _).far hb (Nat.le_refl _) _).far hb (Nat.le_refl _) _).far hb (Nat.le_refl _) _
    · have d1 : decide (tg < 1) = false := decide_eq_false c1
      by_cases c2 : 63 < tg
      · have d2 : decide (63 < tg) = true := decide_eq_true c2
        go_wp2_with fail
        refine bodyPost_ret (v := .tuple #[.agg #[.int .i64 tg, .int .i64 kd, .int .i64 0, .string ⟨#[]⟩], .bool false]) (by simp [results, Try.results68, go_sem, p0, p1, p2, p3, pf, q0, q1, q2, q3, qf]) rfl ⟨?_, ?_⟩
        · rw [HF.out, if_pos (.inr (.inr c2))]
          rfl
        · rw [HF.out, if_pos (.inr (.inr c2))]
          exact (((HW.out.far hb (Nat.le_refl _) _).far hb (Nat.le_refl _) _).far hb (Nat.le_refl _) _).far hb (Nat.le_refl _) _
      · have d2 : decide (63 < tg) = false := decide_eq_false c2
        have HF' := Aside0.mk (HF.out.trans (if_neg (by rintro (h | h | h) <;> first | cases h | omega)))
        clear HF
        have hs2 : w.heap.size ≤ w1.heap.size := Nat.le_of_lt hlt
        by_cases c3 : kd = 0
        · subst c3
          go_wp2_with fail
          refine bodyPost_ret (v := .tuple #[.agg #[.int .i64 tg, .int .i64 0, .int .i64 n, .string ⟨#[]⟩], .bool true]) (by simp [results, Try.results68, go_sem, p0, p1, p2, p3, pf, q0, q1, q2, q3, qf]) rfl ⟨?_, ?_⟩
          · rw [HF'.out, if_pos trivial]
            rfl
          · rw [HF'.out, if_pos trivial]
            exact ((((HW.out.far hb2 hs2 _).far hb (Nat.le_refl _) _).far hb (Nat.le_refl _) _).far hb (Nat.le_refl _) _).far hb (Nat.le_refl _) _
        · have d3 : (kd == 0) = false := beq_eq_false_iff_ne.mpr c3
          have HT := fun W h => text_any W b rest n h hn0
          by_cases c4 : n > (rest.length : Int) ∨ n > 4096
          · simp only [if_pos c4] at HT
            have HT' := Aside0.mk HT
            have HF2 := Aside0.mk (HF'.out.trans ((if_neg c3).trans (if_pos c4)))
            clear HT HF' c4 c3
            go_wp2_with fail
            refine (HT'.out _ HC.out.self).mono ?_
            rintro e w3 ⟨rfl, HR3⟩
            have hg2 := HR3.keep.blk HG2.out (by omega) (by simp)
            have hg1 := HR3.keep.blk HG1.out (by omega) (by simp)
            clear p0 p1 p2 p3 pf q0 q1 q2 q3 qf
            obtain ⟨p0, p1, p2, p3, pf⟩ := blk4 hg2
            obtain ⟨q0, q1, q2, q3, qf⟩ := blk4 hg1
            have HW3 := Aside0.mk (HW.out.trans HR3)
            clear HR3 hg1 hg2
            go_wp2_with fail
            refine bodyPost_ret (v := .tuple #[.agg #[.int .i64 tg, .int .i64 kd, .int .i64 0, .string (mkS [])], .bool false]) (by simp [results, Try.results68, go_sem, p0, p1, p2, p3, pf, q0, q1, q2, q3, qf]) rfl ⟨?_, ?_⟩
            · (rw [HF2.out]; try rfl)
            · rw [HF2.out]
              exact ((((HW3.out.far hb2 hs2 _).far hb (Nat.le_refl _) _).far hb (Nat.le_refl _) _).far hb (Nat.le_refl _) _).far hb (Nat.le_refl _) _
          · simp only [if_neg c4] at HT
            have HT' := Aside0.mk HT
            have HF2 := Aside0.mk (HF'.out.trans ((if_neg c3).trans (if_neg c4)))
            clear HT HF' c4 c3
            go_wp2_with fail
            refine (HT'.out _ HC.out.self).mono ?_
            rintro e w3 ⟨rfl, HR3⟩
            have hg2 := HR3.keep.blk HG2.out (by omega) (by simp)
            have hg1 := HR3.keep.blk HG1.out (by omega) (by simp)
            clear p0 p1 p2 p3 pf q0 q1 q2 q3 qf
            obtain ⟨p0, p1, p2, p3, pf⟩ := blk4 hg2
            obtain ⟨q0, q1, q2, q3, qf⟩ := blk4 hg1
            have HW3 := Aside0.mk (HW.out.trans HR3)
            clear HR3 hg1 hg2
            go_wp2_with fail
            refine bodyPost_ret (v := .tuple #[.agg #[.int .i64 tg, .int .i64 kd, .int .i64 0, .string (mkS (rest.take n.toNat))], .bool true]) (by simp [results, Try.results68, go_sem, p0, p1, p2, p3, pf, q0, q1, q2, q3, qf]) rfl ⟨?_, ?_⟩
            · rw [HF2.out]
            · rw [HF2.out]
              exact ((((HW3.out.far hb2 hs2 _).far hb (Nat.le_refl _) _).far hb (Nat.le_refl _) _).far hb (Nat.le_refl _) _).far hb (Nat.le_refl _) _
end Go.Proofs.Ytjaneipklpgnlaa.Q
end
section
namespace Go.Proofs.Ytjaneipklpgnlaa.Q
open Go Go.RowKit Go.Proofs.YtjaneipklpgnlaaW.PrintWords Go.Proofs.YtjaneipklpgnlaaW.PrintLast Go.Proofs.YtjaneipklpgnlaaW.PrintMore
set_option linter.unusedSimpArgs false
set_option linter.unusedVariables false
theorem numR_rest (f sh : Nat) (m : Int) (l : List UInt8) : (numR f sh m l).2.length ≤ l.length := by
  induction f generalizing sh m l with
  | zero => exact Nat.le_refl _
  | succ f ih =>
    cases l with
    | nil => exact Nat.le_refl _
    | cons c t =>
      rw [numR_cons]
      split
      · exact Nat.le_succ _
      · exact Nat.le_trans (ih _ _ _) (Nat.le_succ _)
theorem fldR_eq (l : List UInt8) (c : UInt8) (n : Int) (ok : Bool) (rest : List UInt8) (hc : l.headD 0 = c) (hn : numR 9 0 0 l.tail = ((n, ok), rest)) :
    fldR l = if ok = false ∨ ((c.toNat / 2 : Nat) : Int) < 1 ∨ ((c.toNat / 2 : Nat) : Int) > 63 then ((⟨(c.toNat / 2 : Nat), (c.toNat % 2 : Nat), 0, mkS []⟩, false), rest)
    else if ((c.toNat % 2 : Nat) : Int) = 0 then ((⟨(c.toNat / 2 : Nat), (c.toNat % 2 : Nat), n, mkS []⟩, true), rest)
    else if n > (rest.length : Int) ∨ n > 4096 then ((⟨(c.toNat / 2 : Nat), (c.toNat % 2 : Nat), 0, mkS []⟩, false), rest)
    else ((⟨(c.toNat / 2 : Nat), (c.toNat % 2 : Nat), 0, mkS (rest.take n.toNat)⟩, true), rest.drop n.toNat) := by
  unfold fldR
  simp only [hc, hn]
theorem fldR_rest (c : UInt8) (t : List UInt8) : (fldR (c :: t)).2.length ≤ t.length := by
  have h := numR_rest 9 0 0 t
  rw [fldR_eq (c :: t) c (numR 9 0 0 t).1.1 (numR 9 0 0 t).1.2 (numR 9 0 0 t).2 rfl rfl]
  generalize numR 9 0 0 t = q at h
  obtain ⟨⟨n, ok⟩, rest⟩ := q
  simp only at h ⊢
  split
  · exact h
  · split
    · exact h
    · split
      · exact h
      · show (List.drop _ _).length ≤ _
        rw [List.length_drop]
        omega
theorem decR_nil (k : Nat) (ahead : Int) (out : List S84) : decR (k + 1) ahead out [] = (out, 0) := rfl
theorem decR_cons (k : Nat) (ahead : Int) (out : List S84) (c : UInt8) (t : List UInt8) : decR (k + 1) ahead out (c :: t) =
    if (fldR (c :: t)).1.2 = false ∨ (fldR (c :: t)).1.1.f0 < ahead then ([], 5) else decR k (fldR (c :: t)).1.1.f0 (out ++ [(fldR (c :: t)).1.1]) (fldR (c :: t)).2 := rfl
set_option maxHeartbeats 1000000 in
set_option maxRecDepth 100000 in
theorem decode_yes (s : ByteArray) (r1 : List S84) (r2 : Int) (w : World) (hs : s.size ≤ 65536) (h : decR (s.size + 1) 0 [] s.data.toList = (r1, r2)) :
    Calls Try.prog 56 #[.string s] w fun e w' => ∃ v0_ : Value, e = .returned (.tuple #[v0_, .int .i64 r2]) ∧ Kd.R k84 84 w' w.heap.size (fun _ => True) v0_ r1 ∧ Below w.heap.size w w' := by
  have H := Aside0.mk h
  have hl : s.data.toList.length = s.size := by simp
  have HL := Aside0.mk hl
  obtain ⟨K, hK⟩ : ∃ K, s.size + 1 = K := ⟨_, rfl⟩
  have HK := Aside0.mk hK
  have hS : mkS s.data.toList = s := rfl
  have b0 : decide (65536 < (s.size : Int)) = false := decide_eq_false (by omega)
  have HS := Aside0.mk hS
  clear h hl hK hS
  go_enter Try.func56, Try.ntmps56
  go_wp2_with fail
  go_loopg [4, 5, 6] K (fun kq v4 v5 v6 wr => ∃ (ahead : Int) (out : List S84) (l : List UInt8) (g : Nat), v5 = .int .i64 ahead ∧ v6 = .pointer (some ⟨g, 0, none⟩) ∧ Aside0 (l.length < kq) ∧ Aside0 (kq ≤ K) ∧ Aside0 (decR kq ahead out l = (r1, r2)) ∧ Aside0 (Rst wr wr g l) ∧
    Aside0 (w.heap.size ≤ g) ∧ Aside0 (Kd.R k84 84 wr w.heap.size (fun _ => True) v4 out) ∧ Aside0 (Below w.heap.size w wr) ∧ Aside0 (out.length + l.length ≤ 65536))
  case atStart =>
    refine ⟨0, [], s.data.toList, w.heap.size, rfl, rfl, ⟨by rw [HL.out, ← HK.out]; omega⟩, ⟨Nat.le_refl _⟩, ⟨by rw [← HK.out]; exact H.out⟩, ⟨Rst.refl ?_⟩, ⟨Nat.le_refl _⟩, ⟨Kd.R_nil _ _ _ _ _⟩, ⟨(Below.refl _ _).alloc (Nat.le_refl _) _⟩, ⟨by rw [HL.out]; simpa using hs⟩⟩
    rw [HS.out]
    exact blk_new w _
  case round =>
    obtain ⟨ahead, out, l, g, rfl, rfl, HLK, HKK, HD, HR, HG, HO, HB, HX⟩ := hrel
    cases gk with
    | zero => exact absurd HLK.out (by omega)
    | succ k =>
      have hc := HR.out.cell
      have hf := HR.out.free
      cases l with
      | nil =>
        have b1 : (mkS []).toList.isEmpty = true := by rw [toList_mkS]; rfl
        have hD := HD.out
        rw [decR_nil] at hD
        injection hD with h1 h2
        subst h1 h2
        go_wp2_with fail
        go_ret2
        exact ⟨_, rfl, HO.out, HB.out⟩
      | cons c t =>
        have b1 := empty_mkS c t
        have hlt := fldR_rest c t
        have hD := HD.out
        rw [decR_cons] at hD
        have HC := field_any wr g (c :: t) HR.out
        generalize fldR (c :: t) = q at hlt hD HC
        obtain ⟨⟨⟨a0, a1, a2, a3⟩, ok⟩, rest⟩ := q
        simp only at hlt hD HC
        have HCC := Aside0.mk HC
        have HDD := Aside0.mk hD
        have HLT := Aside0.mk hlt
        clear HC hD hlt
        cases ok with
        | false =>
          have hD := HDD.out
          rw [if_pos (.inl rfl)] at hD
          injection hD with h1 h2
          subst h1 h2
          go_wp2_with (go_at_call 68; refine HCC.out.mono ?_; rintro e w1 ⟨rfl, HR1⟩)
          go_ret2
          exact ⟨_, rfl, Kd.R_nil _ _ _ _ _, (HB.out.trans (HR1.bel.mono HG.out)).alloc (by have := HB.out.size; have := HR1.keep.1; omega) _⟩
        | true =>
          by_cases ca : a0 < ahead
          · have hD := HDD.out
            rw [if_pos (.inr ca)] at hD
            injection hD with h1 h2
            subst h1 h2
            have d1 : decide (a0 < ahead) = true := decide_eq_true ca
            go_wp2_with (go_at_call 68; refine HCC.out.mono ?_; rintro e w1 ⟨rfl, HR1⟩)
            go_ret2
            exact ⟨_, rfl, Kd.R_nil _ _ _ _ _, (HB.out.trans (HR1.bel.mono HG.out)).alloc (by have := HB.out.size; have := HR1.keep.1; omega) _⟩
          · have hD := HDD.out
            rw [if_neg (by rintro (h | h); cases h; exact ca h)] at hD
            have HD' := Aside0.mk hD
            have d1 : decide (a0 < ahead) = false := decide_eq_false ca
            clear hD HDD
            go_wp2_with fail
            refine HCC.out.mono ?_
            rintro e w1 ⟨rfl, HR1⟩
            have hO := Kd.R_keep (Kd.R_types HO.out HR.out.blk (by decide)) HR1.keep (fun _ hk => hk.2)
            have hO1 := Kd.R_mono hO (ok' := fun _ => True) (fun _ _ => trivial)
            have hB1 := HB.out.trans (HR1.bel.mono HG.out)
            have HO1 := Aside0.mk hO1
            have HB1 := Aside0.mk hB1
            have HRR := Aside0.mk HR1
            clear hO hO1 hB1 HR1
            obtain ⟨y, hy⟩ : ∃ y, y = out ++ [(⟨a0, a1, a2, a3⟩ : S84)] := ⟨_, rfl⟩
            have HY := Aside0.mk hy
            clear hy
            go_wp2_with (first | ((with_reducible refine gate_builtin (b := .append) (xs := #[.tmp 29, .tmp 31]) rfl ?_); at_builtin; refine Kd.R_append k84 (w0 := w) w.heap.size rfl (.tmp 29) (.tmp 31) 57 84 (.agg #[(.int .i64 0), (.int .i64 0), (.int .i64 0), (.string ⟨#[]⟩)]) 40 rfl Try.underlying57 info84 rfl (by decide) (by omega) _ out (⟨a0, a1, a2, a3⟩ : S84) [.int .i64 a0, .int .i64 a1, .int .i64 a2, .string a3] (fun _ => True) (fun _ => False) rfl (by first | (go_simp; done) | (go_simp; rfl)) ?aP (fun _ hk => hk.elim) (fun _ _ => trivial) ?aO ?aB ?aS ?aL ?_; (case aP => exact k84_mkM _ _ _ (⟨a0, a1, a2, a3⟩ : S84)); (case aO => exact Kd.R_alloc HO1.out _); (case aB => exact HB1.out.alloc (by have := HB1.out.size; omega) _); (case aS => have := HB1.out.size; simp; omega); (case aL => have := HX.out; simp at this; omega); intro v1 w2 ho hb hg hat; have hblk := blk_grown (blk_alloc HRR.out.blk _) hg (Kd.R_ne HO1.out HRR.out.blk (by decide)); have hc2 : w2.cell? ⟨g, 0, none⟩ = some (.string (mkS rest)) := (blk_cell hblk 0).trans rfl; have HO2 := Aside0.mk ho; have HB2 := Aside0.mk hb; clear ho hb hg hat hblk))
            go_roundg k
            case measure => exact Nat.lt_succ_self _
            case rel =>
              refine ⟨a0, out ++ [⟨a0, a1, a2, a3⟩], rest, w2.heap.size, rfl, rfl, ⟨?_⟩, ⟨?_⟩, ⟨HD'.out⟩, ⟨Rst.refl (blk_new w2 _)⟩, ⟨HB2.out.size⟩, ⟨Kd.R_alloc HO2.out _⟩, ⟨HB2.out.alloc HB2.out.size _⟩, ⟨?_⟩⟩
              · have h1 := HLT.out; have h2 := HLK.out; simp at h2; omega
              · have h1 := HKK.out; omega
              · have h1 := HLT.out; have h2 := HX.out; simp at h2 ⊢; omega
theorem decode_no (s : ByteArray) (w : World) (hs : 65536 < s.size) :
    Calls Try.prog 56 #[.string s] w fun e w' => e = .returned (.tuple #[.slice none 0 0, .int .i64 5]) ∧ w' = w := by
  have b0 : decide (65536 < (s.size : Int)) = true := decide_eq_true (by omega)
  go_enter Try.func56, Try.ntmps56
  go_wp2_with fail
  go_ret2
  exact ⟨rfl, rfl⟩
theorem field_Decode.calls (a0 : ByteArray) (r1 : List S84) (r2 : Int) (w : World) (h : field_Decode.f a0 = some (r1, r2)) :
    Calls Try.prog 56 #[.string a0] w fun e w' => ∃ v0_ : Value, e = .returned (.tuple #[v0_, .int .i64 r2]) ∧ Kd.R k84 84 w' w.heap.size (fun _ => True) v0_ r1 ∧ Below w.heap.size w w' := by
  unfold field_Decode.f at h
  by_cases hs : a0.size > 65536
  · rw [if_pos hs] at h
    injection h with h
    injection h with h1 h2
    subst h1 h2
    exact (decode_no a0 w hs).mono fun e w' ⟨he, hw⟩ => ⟨_, he, hw ▸ Kd.R_nil _ _ _ _ _, hw ▸ Below.refl _ _⟩
  · rw [if_neg hs] at h
    exact decode_yes a0 r1 r2 w (by omega) (Option.some.inj h)
end Go.Proofs.Ytjaneipklpgnlaa.Q
end

namespace Go.Proofs.Ytjaneipklpgnlaa.Q
open Go Go.RowKit Go.Proofs.YtjaneipklpgnlaaW.PrintWords Go.Proofs.YtjaneipklpgnlaaW.PrintLast Go.Proofs.YtjaneipklpgnlaaW.PrintMore
set_option linter.unusedSimpArgs false
set_option linter.unusedVariables false
/-! ### Records and their bytes -/
def u8 (xs : List Int) : List UInt8 := xs.map fun n => UInt8.ofNat n.toNat
def fldU (f : S84) : List UInt8 := u8 (fldB f)
def flat (L : List S84) : List UInt8 := L.flatMap fldU
def valid : List S84 → Int → Prop
  | [], _ => True
  | f :: l, a => fault f a = 0 ∧ valid l f.f0
theorem u8_append (a b : List Int) : u8 (a ++ b) = u8 a ++ u8 b := List.map_append
theorem u8_len (a : List Int) : (u8 a).length = a.length := List.length_map _
theorem u8_cons (x : Int) (a : List Int) : u8 (x :: a) = UInt8.ofNat x.toNat :: u8 a := rfl
theorem u8_flat (L : List S84) : u8 (L.flatMap fldB) = flat L := by
  induction L with
  | nil => rfl
  | cons f l ih =>
    rw [List.flatMap_cons, u8_append, ih]
    rfl
theorem strOf (xs : List Int) : strOfNums xs = mkS (u8 xs) := rfl
theorem u8_bytes (s : ByteArray) : u8 (bytesOf s) = s.data.toList := by
  unfold u8 bytesOf
  rw [List.map_map]
  have : ((fun n : Int => UInt8.ofNat n.toNat) ∘ fun b : UInt8 => (b.toNat : Int)) = id := by
    funext b
    simp
  rw [this, List.map_id]
theorem flat_len (L : List S84) : (L.flatMap fldB).length = (flat L).length := by rw [← u8_flat, u8_len]
theorem enc_valid (L : List S84) : ∀ (a : Int) (b : List Int), valid L a → encGo L a b = if ((b.length + (flat L).length : Nat) : Int) > 65536 then (⟨#[]⟩, 3) else (mkS (u8 b ++ flat L), 0) := by
  induction L with
  | nil =>
    intro a b _
    unfold encGo
    simp only [flat, List.flatMap_nil, List.length_nil, Nat.add_zero, List.append_nil]
    rfl
  | cons f l ih =>
    intro a b hv
    rw [encGo, if_pos hv.1, ih f.f0 _ hv.2]
    have e1 : (b ++ fldB f).length + (flat l).length = b.length + (flat (f :: l)).length := by
      simp only [flat, List.flatMap_cons, List.length_append, fldU, u8_len]
      omega
    have e2 : u8 (b ++ fldB f) ++ flat l = u8 b ++ flat (f :: l) := by
      rw [u8_append, List.append_assoc]
      rfl
    rw [e1, e2]
theorem fault_cases (f : S84) (a : Int) (h : fault f a ≠ 0) : fault f a = 2 ∨ fault f a = 3 ∨ fault f a = 9 := by
  unfold fault at h ⊢
  split
  · exact .inl rfl
  · split
    · exact .inr (.inl rfl)
    · split
      · exact .inr (.inr rfl)
      · rename_i h1 h2 h3
        rw [if_neg h1, if_neg h2, if_neg h3] at h
        exact absurd rfl h
theorem enc_invalid (L : List S84) : ∀ (a : Int) (b : List Int), ¬ valid L a → ∃ e : Int, e ≠ 0 ∧ encGo L a b = (⟨#[]⟩, e) := by
  induction L with
  | nil => intro a b h; exact absurd trivial h
  | cons f l ih =>
    intro a b hv
    by_cases hf : fault f a = 0
    · rw [encGo, if_pos hf]
      exact ih _ _ (fun h => hv ⟨hf, h⟩)
    · rw [encGo, if_neg hf]
      exact ⟨_, hf, rfl⟩
/-- What is encoded is a valid record, and its bytes. -/
theorem enc_iff (L : List S84) (s : ByteArray) : encGo L 0 [] = (s, 0) ↔ valid L 0 ∧ (flat L).length ≤ 65536 ∧ s = mkS (flat L) := by
  by_cases hv : valid L 0
  · rw [enc_valid L 0 [] hv]
    simp only [List.length_nil, Nat.zero_add]
    by_cases hl : (flat L).length ≤ 65536
    · rw [if_neg (by omega)]
      constructor
      · intro h
        injection h with h1 h2
        exact ⟨hv, hl, h1.symm⟩
      · rintro ⟨_, _, rfl⟩
        rfl
    · rw [if_pos (by omega)]
      constructor
      · intro h
        injection h with h1 h2
        cases h2
      · rintro ⟨_, h, _⟩
        exact absurd h hl
  · obtain ⟨e, he, h⟩ := enc_invalid L 0 [] hv
    rw [h]
    constructor
    · intro h
      injection h with h1 h2
      exact absurd h2 he
    · rintro ⟨h, _⟩
      exact absurd h hv
/-! ### A number, read and written -/
theorem p128' : (128 : Nat) ^ (8 + 1) = 9223372036854775808 := by decide +kernel
theorem lt128' (m : Nat) (h : m ≤ 4611686018427387904) : m < 128 ^ (8 + 1) := by
  rw [p128']
  omega
theorem u8_of (n : Nat) (h : n < 256) : (UInt8.ofNat n).toNat = n := by simp [UInt8.toNat_ofNat']; omega
theorem lt128_iff (c : UInt8) : c < 128 ↔ c.toNat < 128 := by rw [UInt8.lt_iff_toNat_lt]; rfl
theorem numR_numU (j : Nat) : ∀ (m sh : Nat) (acc : Int) (t : List UInt8) (f : Nat), m < 128 ^ (j + 1) → j < f →
    numR f sh acc (u8 (numBf j m) ++ t) = ((acc + (m : Int) * 2 ^ sh, (decide (0 < m) || sh == 0) && decide (acc + (m : Int) * 2 ^ sh ≤ 4611686018427387904)), t) := by
  induction j with
  | zero =>
    intro m sh acc t f hm hf
    obtain ⟨f, rfl⟩ : ∃ g, f = g + 1 := ⟨f - 1, by omega⟩
    simp at hm
    have e : u8 (numBf 0 m) ++ t = UInt8.ofNat m :: t := rfl
    rw [e, numR_cons, u8_of m (by omega), if_pos (by rw [lt128_iff, u8_of m (by omega)]; exact hm)]
  | succ j ih =>
    intro m sh acc t f hm hf
    obtain ⟨f, rfl⟩ : ∃ g, f = g + 1 := ⟨f - 1, by omega⟩
    by_cases c : m < 128
    · have e : u8 (numBf (j + 1) m) ++ t = UInt8.ofNat m :: t := by
        unfold numBf
        rw [if_pos c]
        rfl
      rw [e, numR_cons, u8_of m (by omega), if_pos (by rw [lt128_iff, u8_of m (by omega)]; exact c)]
    · have e : u8 (numBf (j + 1) m) ++ t = UInt8.ofNat (128 + m % 128) :: (u8 (numBf j (m / 128)) ++ t) := by
        conv => lhs; unfold numBf
        rw [if_neg c]
        rfl
      have hd : m / 128 < 128 ^ (j + 1) := by rw [Nat.pow_succ] at hm; exact Nat.div_lt_of_lt_mul (by rw [Nat.mul_comm]; exact hm)
      rw [e, numR_cons, if_neg (by rw [lt128_iff, u8_of _ (by omega)]; omega), u8_of _ (by omega), ih (m / 128) (sh + 7) _ t f hd (by omega)]
      have hval : acc + (((128 + m % 128) % 128 : Nat) : Int) * 2 ^ sh + ((m / 128 : Nat) : Int) * 2 ^ (sh + 7) = acc + (m : Int) * 2 ^ sh := by
        have hm2 : (m : Int) = ((m % 128 : Nat) : Int) + 128 * ((m / 128 : Nat) : Int) := by omega
        rw [show (128 + m % 128) % 128 = m % 128 by omega, Int.pow_add, Int.add_assoc]
        congr 1
        conv => rhs; rw [hm2]
        rw [Int.add_mul]
        congr 1
        rw [show (2 : Int) ^ 7 = 128 by decide, Int.mul_comm ((2 : Int) ^ sh) 128, ← Int.mul_assoc, Int.mul_comm 128]
      rw [hval]
      have h1 : decide (0 < m / 128) = true := decide_eq_true (by omega)
      have h2 : decide (0 < m) = true := decide_eq_true (by omega)
      rw [h1, h2]
      rfl
theorem numR_sound (f : Nat) : ∀ (sh : Nat) (acc v : Int) (l rest : List UInt8), numR f sh acc l = ((v, true), rest) → ∃ m : Nat, v = acc + (m : Int) * 2 ^ sh ∧ l = u8 (numBf (f - 1) m) ++ rest ∧ m < 128 ^ f ∧ (0 < m ∨ sh = 0) ∧ v ≤ 4611686018427387904 := by
  induction f with
  | zero =>
    intro sh acc v l rest h
    injection h with h _
    injection h with _ h
    cases h
  | succ f ih =>
    intro sh acc v l rest h
    cases l with
    | nil =>
      rw [numR_nil] at h
      injection h with h _
      injection h with _ h
      cases h
    | cons c t =>
      rw [numR_cons] at h
      by_cases hc : c < 128
      · rw [if_pos hc] at h
        injection h with h h3
        injection h with h1 h2
        rw [Bool.and_eq_true, Bool.or_eq_true] at h2
        have hc' := (lt128_iff c).1 hc
        have hn : ∀ j, u8 (numBf j c.toNat) = [c] := by
          intro j
          have : UInt8.ofNat ((c.toNat : Int)).toNat = c := by simp
          cases j with
          | zero => show [UInt8.ofNat ((c.toNat : Int)).toNat] = [c]; rw [this]
          | succ j => unfold numBf; rw [if_pos hc']; show [UInt8.ofNat ((c.toNat : Int)).toNat] = [c]; rw [this]
        refine ⟨c.toNat, h1.symm, by rw [hn, h3]; rfl, ?_, ?_, ?_⟩
        · rw [Nat.pow_succ]
          have := Nat.pow_pos (n := f) (show 0 < 128 by decide)
          omega
        · rcases h2.1 with h | h
          · exact .inl (of_decide_eq_true h)
          · exact .inr (by simpa using h)
        · rw [← h1]
          exact of_decide_eq_true h2.2
      · rw [if_neg hc] at h
        obtain ⟨m, hv, ht, hm, h0, hmax⟩ := ih _ _ _ _ _ h
        have hc' : 128 ≤ c.toNat := by rw [lt128_iff] at hc; omega
        have hc2 := c.toNat_lt
        have hm0 : 0 < m := by omega
        cases f with
        | zero =>
          injection h with h _
          injection h with _ h
          cases h
        | succ f =>
          refine ⟨c.toNat % 128 + 128 * m, ?_, ?_, ?_, .inl (by omega), hmax⟩
          · rw [hv]
            have : ((c.toNat % 128 + 128 * m : Nat) : Int) = ((c.toNat % 128 : Nat) : Int) + 128 * (m : Int) := by omega
            rw [this, Int.add_mul, Int.pow_add, Int.add_assoc]
            congr 2
            rw [show (2 : Int) ^ 7 = 128 by decide, Int.mul_comm ((2 : Int) ^ sh) 128, ← Int.mul_assoc, Int.mul_comm 128]
          · rw [ht]
            show c :: (u8 (numBf f m) ++ rest) = u8 (numBf (f + 1) (c.toNat % 128 + 128 * m)) ++ rest
            have e : numBf (f + 1) (c.toNat % 128 + 128 * m) = (c.toNat : Int) :: numBf f m := by
              unfold numBf
              rw [if_neg (by omega), show (c.toNat % 128 + 128 * m) / 128 = m by omega, show 128 + (c.toNat % 128 + 128 * m) % 128 = c.toNat by omega]
              cases f <;> rfl
            rw [e, u8_cons]
            simp
          · rw [Nat.pow_succ]
            omega
/-! ### A field, read and written -/
theorem bad_iff (f : S84) : ¬ bad f ↔ 1 ≤ f.f0 ∧ f.f0 ≤ 63 ∧ ((f.f1 = 0 ∧ f.f3.toList = [] ∧ 0 ≤ f.f2 ∧ f.f2 ≤ 4611686018427387904) ∨ (f.f1 = 1 ∧ f.f2 = 0)) := by
  unfold bad
  constructor
  · intro h
    refine ⟨by omega, by omega, ?_⟩
    apply Classical.byContradiction
    intro h2
    exact h (.inr (.inr h2))
  · rintro ⟨h1, h2, h3⟩ (h | h | h)
    · omega
    · omega
    · exact h h3
theorem mkS_data (s : ByteArray) : mkS s.data.toList = s := rfl
theorem toList_mk {s : ByteArray} (h : s.toList = []) : s = mkS [] := by
  rw [ByteArray.toList_eq] at h
  rw [← mkS_data s, h]
theorem fldR_fldU (f : S84) (t : List UInt8) (hb : ¬ bad f) (hs : (f.f3.size : Int) ≤ 4096) : fldR (fldU f ++ t) = ((f, true), t) := by
  obtain ⟨h1, h2, h3⟩ := (bad_iff f).1 hb
  obtain ⟨tg, kd, n, s⟩ := f
  simp only at h1 h2 h3 hs
  rcases h3 with ⟨rfl, hs0, hn0, hn1⟩ | ⟨rfl, rfl⟩
  · obtain ⟨m, rfl⟩ := Int.eq_ofNat_of_zero_le hn0
    obtain rfl := toList_mk hs0
    have e : fldU (⟨tg, 0, (m : Int), mkS []⟩ : S84) ++ t = UInt8.ofNat (2 * tg + 0).toNat :: (u8 (numBf 9 m) ++ t) := by
      simp only [fldU, fldB, u8_cons, List.cons_append, Int.toNat_natCast, numB, if_pos]
    have hc : (UInt8.ofNat (2 * tg + 0).toNat).toNat = (2 * tg + 0).toNat := u8_of _ (by omega)
    have hnum := numR_numU 8 m 0 0 t 9 (lt128' m (by omega)) (by omega)
    rw [← numBf_more 8 m (lt128' m (by omega))] at hnum
    rw [e, fldR_eq (UInt8.ofNat (2 * tg + 0).toNat :: (u8 (numBf 9 m) ++ t)) (UInt8.ofNat (2 * tg + 0).toNat) _ _ _ rfl hnum]
    simp only [hc]
    have hq : (2 * tg + 0).toNat / 2 = tg.toNat := by omega
    have hr : (2 * tg + 0).toNat % 2 = 0 := by omega
    rw [hq, hr, if_neg (by
      rintro (h | h | h)
      · simp at h; omega
      · omega
      · omega), if_pos (show ((0 : Nat) : Int) = 0 from rfl)]
    simp
    omega
  · have e : fldU (⟨tg, 1, 0, s⟩ : S84) ++ t = UInt8.ofNat (2 * tg + 1).toNat :: (u8 (numBf 9 s.size) ++ (s.data.toList ++ t)) := by
      simp only [fldU, fldB, u8_cons, List.cons_append, numB, u8_append, u8_bytes, List.append_assoc]
      rw [if_neg (by decide), u8_append, u8_bytes, List.append_assoc]
    have hc : (UInt8.ofNat (2 * tg + 1).toNat).toNat = (2 * tg + 1).toNat := u8_of _ (by omega)
    have hnum := numR_numU 8 s.size 0 0 (s.data.toList ++ t) 9 (lt128' _ (by omega)) (by omega)
    rw [← numBf_more 8 s.size (lt128' _ (by omega))] at hnum
    rw [e, fldR_eq (UInt8.ofNat (2 * tg + 1).toNat :: (u8 (numBf 9 s.size) ++ (s.data.toList ++ t))) (UInt8.ofNat (2 * tg + 1).toNat) _ _ _ rfl hnum]
    simp only [hc]
    have hq : (2 * tg + 1).toNat / 2 = tg.toNat := by omega
    have hr : (2 * tg + 1).toNat % 2 = 1 := by omega
    have hsl : s.data.toList.length = s.size := by simp
    rw [hq, hr, if_neg (by
      rintro (h | h | h)
      · simp at h; omega
      · omega
      · omega), if_neg (show ¬ ((1 : Nat) : Int) = 0 by decide), if_neg (by
      rw [List.length_append, hsl]
      simp
      omega)]
    have h0 : ((0 : Int) + (s.size : Int) * 2 ^ 0).toNat = s.data.toList.length := by rw [hsl]; simp
    rw [h0, List.take_left, List.drop_left, mkS_data]
    have : ((tg.toNat : Nat) : Int) = tg := by omega
    rw [this]
    rfl
theorem fldR_sound (c : UInt8) (l rest : List UInt8) (f : S84) (h : fldR (c :: l) = ((f, true), rest)) : ¬ bad f ∧ (f.f3.size : Int) ≤ 4096 ∧ c :: l = fldU f ++ rest := by
  obtain ⟨n, ok, r, hn⟩ : ∃ n ok r, numR 9 0 0 l = ((n, ok), r) := ⟨_, _, _, rfl⟩
  rw [fldR_eq (c :: l) c n ok r rfl hn] at h
  have hc := c.toNat_lt
  by_cases c1 : ok = false ∨ ((c.toNat / 2 : Nat) : Int) < 1 ∨ ((c.toNat / 2 : Nat) : Int) > 63
  · rw [if_pos c1] at h
    injection h with h _
    injection h with _ h
    cases h
  · rw [if_neg c1] at h
    have hok : ok = true := by
      cases ok with
      | true => rfl
      | false => exact absurd (.inl rfl) c1
    subst hok
    obtain ⟨m, hv, hl, hm, _, hmax⟩ := numR_sound 9 0 0 n l r hn
    have hnm : n = (m : Int) := by rw [hv]; simp
    subst hnm
    have hmm : m < 128 ^ (8 + 1) := hm
    have hl' : l = u8 (numB m) ++ r := by
      rw [hl]
      unfold numB
      rw [numBf_more 8 m hmm]
    have hcc : UInt8.ofNat c.toNat = c := by simp
    by_cases c2 : ((c.toNat % 2 : Nat) : Int) = 0
    · rw [if_pos c2] at h
      injection h with h h3
      injection h with h h4
      subst h h3
      refine ⟨(bad_iff _).2 ⟨?_, ?_, .inl ⟨c2, by rw [toList_mkS], ?_, ?_⟩⟩, ?_, ?_⟩
      · simp only; omega
      · simp only; omega
      · simp only; omega
      · simp only; omega
      · show ((mkS []).size : Int) ≤ 4096; decide
      · rw [hl']
        unfold fldU fldB
        rw [if_pos c2, u8_cons, show (2 * ((c.toNat / 2 : Nat) : Int) + ((c.toNat % 2 : Nat) : Int)).toNat = c.toNat by omega, hcc]
        simp
    · rw [if_neg c2] at h
      by_cases c3 : (m : Int) > (r.length : Int) ∨ (m : Int) > 4096
      · rw [if_pos c3] at h
        injection h with h _
        injection h with _ h
        cases h
      · rw [if_neg c3] at h
        injection h with h h3
        injection h with h h4
        subst h h3
        have hsz : (mkS (List.take (m : Int).toNat r)).size = m := by rw [size_mkS, List.length_take]; omega
        refine ⟨(bad_iff _).2 ⟨?_, ?_, .inr ⟨?_, rfl⟩⟩, ?_, ?_⟩
        · simp only; omega
        · simp only; omega
        · simp only; omega
        · simp only [hsz]; omega
        · rw [hl']
          unfold fldU fldB
          rw [if_neg c2, u8_cons, u8_append, u8_bytes, hsz, show (2 * ((c.toNat / 2 : Nat) : Int) + ((c.toNat % 2 : Nat) : Int)).toNat = c.toNat by omega, hcc]
          show _ = c :: (_ ++ List.take _ _ ++ List.drop _ _)
          rw [List.append_assoc, List.take_append_drop]
/-! ### A record, read and written -/
theorem fldU_ne (f : S84) : ∃ c l, fldU f = c :: l := ⟨_, _, rfl⟩
theorem decR_flat (L : List S84) : ∀ (k : Nat) (a : Int) (out : List S84), valid L a → (flat L).length < k → decR k a out (flat L) = (out ++ L, 0) := by
  induction L with
  | nil =>
    intro k a out _ hk
    obtain ⟨k, rfl⟩ : ∃ m, k = m + 1 := ⟨k - 1, by omega⟩
    rw [show flat [] = [] from rfl, decR_nil, List.append_nil]
  | cons f l ih =>
    intro k a out hv hk
    obtain ⟨k, rfl⟩ : ∃ m, k = m + 1 := ⟨k - 1, by omega⟩
    obtain ⟨hb, hs, ha⟩ := fault_ok hv.1
    have hr := fldR_fldU f (flat l) hb hs
    obtain ⟨c, t, hc⟩ := fldU_ne f
    have e : flat (f :: l) = c :: (t ++ flat l) := by
      show fldU f ++ flat l = _
      rw [hc]
      rfl
    rw [hc] at hr
    rw [e] at hk ⊢
    rw [decR_cons]
    rw [List.cons_append] at hr
    rw [hr, if_neg (by rintro (h | h); cases h; simp only at h; omega)]
    simp only
    rw [ih k f.f0 _ hv.2 (by simp at hk; omega), List.append_assoc]
    rfl
theorem decR_sound (k : Nat) : ∀ (a : Int) (out L : List S84) (l : List UInt8), decR k a out l = (L, 0) → ∃ M, L = out ++ M ∧ valid M a ∧ l = flat M := by
  induction k with
  | zero =>
    intro a out L l h
    injection h with _ h
    cases h
  | succ k ih =>
    intro a out L l h
    cases l with
    | nil =>
      rw [decR_nil] at h
      injection h with h _
      exact ⟨[], by simp [h], trivial, rfl⟩
    | cons c t =>
      rw [decR_cons] at h
      obtain ⟨f, ok, rest, hq⟩ : ∃ f ok rest, fldR (c :: t) = ((f, ok), rest) := ⟨_, _, _, rfl⟩
      rw [hq] at h
      simp only at h
      by_cases c1 : ok = false ∨ f.f0 < a
      · rw [if_pos c1] at h
        injection h with _ h
        cases h
      · rw [if_neg c1] at h
        have hok : ok = true := by
          cases ok with
          | true => rfl
          | false => exact absurd (.inl rfl) c1
        subst hok
        obtain ⟨hb, hs, hl⟩ := fldR_sound c t rest f hq
        obtain ⟨M, hM, hv, hr⟩ := ih _ _ _ _ h
        refine ⟨f :: M, by rw [hM, List.append_assoc]; rfl, ⟨?_, hv⟩, by rw [hl, hr]; rfl⟩
        unfold fault
        rw [if_neg hb, if_neg (by omega), if_neg (fun h => c1 (.inr h))]
theorem decR_total (k : Nat) : ∀ (a : Int) (out : List S84) (l : List UInt8), (decR k a out l).2 = 0 ∨ decR k a out l = ([], 5) := by
  induction k with
  | zero => intro a out l; exact .inr rfl
  | succ k ih =>
    intro a out l
    cases l with
    | nil => exact .inl rfl
    | cons c t =>
      rw [decR_cons]
      split
      · exact .inr rfl
      · exact ih _ _ _
/-- What the bytes are decoded as: the record that has them, or none. -/
def decS (s : ByteArray) : List S84 × Int := if s.size > 65536 then ([], 5) else decR (s.size + 1) 0 [] s.data.toList
theorem dec_fn (s : ByteArray) : field_Decode.f s = some (decS s) := rfl
theorem decS_iff (s : ByteArray) (L : List S84) : decS s = (L, 0) ↔ valid L 0 ∧ (flat L).length ≤ 65536 ∧ s = mkS (flat L) := by
  unfold decS
  have hsl : s.data.toList.length = s.size := by simp
  by_cases hs : s.size > 65536
  · rw [if_pos hs]
    constructor
    · intro h
      injection h with _ h
      cases h
    · rintro ⟨_, h, rfl⟩
      rw [size_mkS] at hs
      omega
  · rw [if_neg hs]
    constructor
    · intro h
      obtain ⟨M, hM, hv, hl⟩ := decR_sound _ _ _ _ _ h
      rw [List.nil_append] at hM
      subst hM
      exact ⟨hv, by rw [← hl]; omega, by rw [← hl, mkS_data]⟩
    · rintro ⟨hv, hl, rfl⟩
      rw [data_mkS, size_mkS, decR_flat L _ 0 [] hv (by omega), List.nil_append]
theorem decS_total (s : ByteArray) : (decS s).2 = 0 ∨ decS s = ([], 5) := by
  unfold decS
  split
  · exact .inr rfl
  · exact decR_total _ _ _ _
/-- Encoding and decoding are each other's. -/
theorem dec_enc (L : List S84) (s : ByteArray) : decS s = (L, 0) ↔ encGo L 0 [] = (s, 0) := by rw [decS_iff, enc_iff]
end Go.Proofs.Ytjaneipklpgnlaa.Q

namespace Go.Proofs.Ytjaneipklpgnlaa.Q
open Go Go.RowKit Go.Proofs.YtjaneipklpgnlaaW.PrintWords Go.Proofs.YtjaneipklpgnlaaW.PrintLast Go.Proofs.YtjaneipklpgnlaaW.PrintMore
set_option linter.unusedSimpArgs false
set_option linter.unusedVariables false
/-! ### Records are told apart by their bytes -/
def wf (f : S84) : Prop := ¬ bad f ∧ (f.f3.size : Int) ≤ 4096
theorem valid_wf {L : List S84} : ∀ {a : Int}, valid L a → ∀ f ∈ L, wf f := by
  induction L with
  | nil => intro a _ f hf; cases hf
  | cons g l ih =>
    intro a hv f hf
    rcases List.mem_cons.1 hf with rfl | hf
    · exact ⟨(fault_ok hv.1).1, (fault_ok hv.1).2.1⟩
    · exact ih hv.2 f hf
theorem flat_cons (f : S84) (l : List S84) : flat (f :: l) = fldU f ++ flat l := rfl
theorem flat_append (a b : List S84) : flat (a ++ b) = flat a ++ flat b := by unfold flat; rw [List.flatMap_append]
theorem flat_ge (L : List S84) : L.length ≤ (flat L).length := by
  induction L with
  | nil => exact Nat.le_refl _
  | cons f l ih =>
    obtain ⟨c, t, h⟩ := fldU_ne f
    rw [flat_cons, h]
    simp
    omega
theorem fldU_inj {f g : S84} {s t : List UInt8} (hf : wf f) (hg : wf g) (h : fldU f ++ s = fldU g ++ t) : f = g ∧ s = t := by
  have h1 := fldR_fldU f s hf.1 hf.2
  have h2 := fldR_fldU g t hg.1 hg.2
  rw [h, h2] at h1
  injection h1 with h3 h4
  injection h3 with h3 _
  exact ⟨h3.symm, h4.symm⟩
/-- Two records of one begin: what is behind it. -/
theorem flat_split (A : List S84) : ∀ (M : List S84) (p : List UInt8), (∀ f ∈ A, wf f) → (∀ f ∈ M, wf f) → p ≠ [] ∨ True → flat M = flat A ++ p → (∃ M', M = A ++ M' ∧ flat M' = p) := by
  induction A with
  | nil => intro M p _ _ _ h; exact ⟨M, rfl, h⟩
  | cons f A ih =>
    intro M p hA hM hp h
    cases M with
    | nil =>
      obtain ⟨c, t, hc⟩ := fldU_ne f
      rw [flat_cons, hc] at h
      cases h
    | cons g M =>
      rw [flat_cons, flat_cons, List.append_assoc] at h
      obtain ⟨rfl, h2⟩ := fldU_inj (hM g List.mem_cons_self) (hA f List.mem_cons_self) h
      obtain ⟨M', rfl, h3⟩ := ih M p (fun x hx => hA x (List.mem_cons_of_mem _ hx)) (fun x hx => hM x (List.mem_cons_of_mem _ hx)) (.inr trivial) h2
      exact ⟨M', rfl, h3⟩
theorem flat_inj {A M : List S84} (hA : ∀ f ∈ A, wf f) (hM : ∀ f ∈ M, wf f) (h : flat M = flat A) : M = A := by
  obtain ⟨M', rfl, h2⟩ := flat_split A M [] hA hM (.inr trivial) (by rw [h, List.append_nil])
  cases M' with
  | nil => exact List.append_nil _
  | cons f l =>
    obtain ⟨c, t, hc⟩ := fldU_ne f
    rw [flat_cons, hc] at h2
    cases h2
/-- A record's bytes, cut within its last field, are none. -/
theorem cut_none (A : List S84) (f : S84) (p q : List UInt8) (hA : ∀ x ∈ A, wf x) (hf : wf f) (hp : p ≠ []) (hq : q ≠ []) (h : fldU f = p ++ q) : decS (mkS (flat A ++ p)) = ([], 5) := by
  rcases decS_total (mkS (flat A ++ p)) with h0 | h0
  · obtain ⟨M, e, hd⟩ : ∃ M e, decS (mkS (flat A ++ p)) = (M, e) := ⟨_, _, rfl⟩
    rw [hd] at h0
    simp only at h0
    subst h0
    obtain ⟨hv, _, hm⟩ := (decS_iff _ _).1 hd
    have hfl : flat M = flat A ++ p := by
      have := congrArg (fun s => s.data.toList) hm
      simp only [data_mkS] at this
      exact this.symm
    obtain ⟨M', rfl, h2⟩ := flat_split A M p hA (valid_wf hv) (.inr trivial) hfl
    cases M' with
    | nil => exact absurd h2.symm hp
    | cons g M' =>
      have hg : wf g := valid_wf hv g (by simp)
      rw [flat_cons] at h2
      have h3 : fldU f ++ [] = fldU g ++ (flat M' ++ q) := by rw [List.append_nil, h, ← h2, List.append_assoc]
      obtain ⟨_, h4⟩ := fldU_inj hf hg h3
      exact absurd (List.append_eq_nil_iff.1 h4.symm).2 hq
  · exact h0
theorem valid_append (A B : List S84) : ∀ (a : Int), valid (A ++ B) a ↔ valid A a ∧ valid B ((A.getLast?.map (·.f0)).getD a) := by
  induction A with
  | nil => intro a; simp [valid]
  | cons f l ih =>
    intro a
    rw [List.cons_append]
    show (fault f a = 0 ∧ valid (l ++ B) f.f0) ↔ ((fault f a = 0 ∧ valid l f.f0) ∧ _)
    rw [ih f.f0]
    cases l with
    | nil => simp [and_assoc]
    | cons g l => simp [and_assoc, List.getLast?_cons_cons, List.getLast?_cons]
theorem fault_more (f : S84) (a b : Int) (h : fault f a = 0) : fault f b = 0 ↔ b ≤ f.f0 := by
  obtain ⟨h1, h2, _⟩ := fault_ok h
  unfold fault
  rw [if_neg h1, if_neg (by omega)]
  by_cases h3 : f.f0 < b
  · rw [if_pos h3]
    constructor
    · intro h; cases h
    · intro h; omega
  · rw [if_neg h3]
    constructor
    · intro _; omega
    · intro _; rfl
/-- Two records' bytes, one behind the other. -/
theorem two_recs (A B : List S84) (f g : S84) (hA : valid (A ++ [f]) 0) (hB : valid (g :: B) 0) (hl : (flat (A ++ [f])).length + (flat (g :: B)).length ≤ 65536) :
    ((decS (mkS (flat (A ++ [f]) ++ flat (g :: B)))).2 = 0 ↔ f.f0 ≤ g.f0) := by
  have key : valid ((A ++ [f]) ++ g :: B) 0 ↔ f.f0 ≤ g.f0 := by
    rw [valid_append]
    have : ((A ++ [f]).getLast?.map (·.f0)).getD 0 = f.f0 := by simp
    rw [this]
    constructor
    · rintro ⟨_, h⟩
      exact (fault_more g 0 f.f0 hB.1).1 h.1
    · intro h
      exact ⟨hA, (fault_more g 0 f.f0 hB.1).2 h, hB.2⟩
  rw [← flat_append, ← key]
  have hwf : ∀ x ∈ (A ++ [f]) ++ g :: B, wf x := by
    intro x hx
    rcases List.mem_append.1 hx with hx | hx
    · exact valid_wf hA x hx
    · exact valid_wf hB x hx
  constructor
  · intro h0
    obtain ⟨M, e, hd⟩ : ∃ M e, decS (mkS (flat (A ++ [f] ++ g :: B))) = (M, e) := ⟨_, _, rfl⟩
    rw [hd] at h0
    simp only at h0
    subst h0
    obtain ⟨hv, _, hm⟩ := (decS_iff _ _).1 hd
    have hfl : flat M = flat (A ++ [f] ++ g :: B) := by
      have := congrArg (fun s => s.data.toList) hm
      simp only [data_mkS] at this
      exact this.symm
    rw [← flat_inj hwf (valid_wf hv) hfl]
    exact hv
  · intro hv
    rw [(decS_iff _ (A ++ [f] ++ g :: B)).2 ⟨hv, by rw [flat_append, List.length_append]; exact hl, rfl⟩]
end Go.Proofs.Ytjaneipklpgnlaa.Q
