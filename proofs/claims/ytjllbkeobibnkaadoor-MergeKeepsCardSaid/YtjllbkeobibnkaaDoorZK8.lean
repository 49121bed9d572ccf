/-
What is proved: aquifer/aquiferlaw28.MergeKeeps answers true for every input, and leaves its arguments as they were.
-/
import Derived.Test.YtjllbkeobibnkaaDoorZK6
import Derived.Test.YtjllbkeobibnkaaDoorZK7
import Derived.Test.YtjllbkeobibnkaaDoorRows
import Derived.Test.YtjllbkeobibnkaaDoorCards
import Derived.Test.YtjllbkeobibnkaaDoorTie
import Derived.Test.YtjllbkeobibnkaaDoorZK1
import Derived.WalkKit
import Derived.ProofKit
import Derived.OpenShut
import Derived.ShutString
import Derived.ChangeOld
import Derived.Below
import Derived.SizedLaws
import Derived.LaidLaws
import Derived.LaidMore
import Derived.Lay
import Derived.SevenTiedAt
import Derived.Stop.Joined
set_option linter.unusedVariables false
set_option linter.unusedSimpArgs false
namespace Go.Proofs.YtjllbkeobibnkaaDoor.Q
open Go Go.Proofs Go.Shelf Go.RowKit Go.Lib Go.Sort Go.Proofs.YtjllbkeobibnkaaDoorP Go.Proofs.YtjllbkeobibnkaaDoorK Go.Proofs.YtjllbkeobibnkaaDoorW.PrintWords Go.Proofs.YtjllbkeobibnkaaDoorW.PrintLast Go.Proofs.YtjllbkeobibnkaaDoorW.PrintMore
set_option linter.unusedSimpArgs false
set_option linter.unusedVariables false
theorem zero4k (w : World) : (zeroValue 4).run Tryd.prog w = .ok (.bool false) w := by kernel_rfl
theorem zero9k (w : World) : (zeroValue 9).run Tryd.prog w = .ok (.string ⟨#[]⟩) w := by kernel_rfl
instance : Go.Proofs.YtjllbkeobibnkaaDoorK.NotIn 24 (33 :: k33.E) := ⟨by decide⟩
attribute [local go_sem] A51_size A51_0 A51_1 A51_g0 A51_g1 A58_size A58_0 A58_1 A58_2 A58_g0 A58_g1 A58_g2 cell_held frozen_held
attribute [local go_sem] zero51 zero58 zero65 A33
attribute [local go_sem ↓ high] lvx_of
attribute [local go_sem] lv_sc lv24 lv33
attribute [local go_sem ↓ high] lv51 lv51s lv58 lv58a lv65 lv65a lv65l lv65r sc51 sc58 sc65 sc65a sc65l sc65r sc58a
set_option maxRecDepth 100000 in
set_option maxHeartbeats 8000000 in
theorem keeps_any (w : World) (s : S24) (v : Array Value) (A0 : Option Addr) (c0 : Nat) (l : List ByteArray) (hs : SideIn w s v) (hC : Kd.C Kd.string w A0 l.length l) (hc : l.length ≤ c0) :
    Calls Tryd.prog 6 #[.agg v, .slice A0 l.length c0] w fun e w' => e = .returned (.bool true) ∧ Below w.heap.size w w' := by
  have HF := Aside0.mk (fun W (hb : Below w.heap.size w W) => Few_any W s v (hs.below hb))
  have HSC := Aside0.mk (fun W (hb : Below w.heap.size w W) => scoped_any W A0 c0 l (Kd.C_below hC hb) hc)
  have ht := fewS_tiny s
  have hil := sc_len l
  have hsh := sc_short l
  have hrm := few_room s (scL l)
  have hln := few_plan s (scL l)
  generalize fewS s = t at *
  generalize scL l = inn at *
  have HP := Aside0.mk (fun W v A c h hC hc => plan_any W t v A c inn h ht hC hc hsh)
  have HW := Aside0.mk (fun W => works_any W)
  have hgood := @planS_good t inn
  have hbad := @planS_bad t inn
  have hok : checkS t = 0 → OkS t := (check_iff t).1
  have hrun := @run_plan t inn
  have hsz := @plan_size t inn
  have hmm := @run_makeMap Tryd.prog
  have hu55 := Tryd.underlying55
  have hu56 := Tryd.underlying56
  have hu9 := Tryd.underlying9
  have hu4 := Tryd.underlying4
  obtain ⟨A, c, B, d, C, e, rfl, l1, l2, l3, h1, h2, h3⟩ := hs.out
  clear hs l1 l2 l3 h1 h2 h3 hC hc
  generalize s.f0.length = n0 at *
  generalize s.f1.length = n1 at *
  generalize s.f2.length = n2 at *
  generalize l.length = n3 at *
  by_cases hk : checkS t = 0 ∧ mayS inn = true
  rotate_left
  · rw [hbad hk] at HP
    clear hgood hbad hok hrun hsz hk hmm
    go_enter Tryd.func6, Tryd.ntmps6
    go_wp2_with fail
    refine (HF.out _ (bel _ _)).mono ?_
    rintro e1 w1 ⟨v1, rfl, hv, hb⟩
    have p1 := prev_call hb
    have hv := (show ∃ b, b = w.heap.size + 1 ∧ SideR w1 b t v1 from ⟨_, by rw [World.size_alloc], hv⟩)
    obtain ⟨b1, hb1, hv⟩ := hv
    have HV1 := Aside0.mk hv
    obtain ⟨A1, c1, B1, d1, C1, x1, rfl, _, _, _, _, _, _⟩ := hv.side.out
    clear hb hv
    go_wp2_with fail
    refine (HSC.out _ (bel _ _)).mono ?_
    rintro e2 w2 ⟨v2, rfl, hv, hb⟩
    have p2 := prev_call hb
    obtain ⟨A2, c2, rfl⟩ := Kd.R_slice hv
    have HI2 := Aside0.mk hv
    have s2 : w.heap.size < w2.heap.size := held_lt (W := w2) (g := w.heap.size)
    clear hb hv
    go_wp2_with fail
    refine (HP.out _ _ _ _ (SideR.x HV1.out).side (Kd.R_reads' (rowX HI2.out)).2.2 (Kd.R_reads' HI2.out).2.1).mono ?_
    rintro e3 w3 ⟨v3, rfl, hv, hb⟩
    have p3 := prev_call hb
    clear hb hv
    go_wp2_with fail
    refine (HW.out _).mono ?_
    rintro e4 w4 ⟨rfl, hb⟩
    have p4 := prev_call hb
    clear hb
    go_wp2_with fail
    go_ret
    exact ⟨rfl, bel _ _⟩
  rw [hgood hk] at HP
  obtain ⟨T, st, hall, hran⟩ := hrun (hok hk.1) hk.2
  have hos := hok hk.1
  have hzz := hsz hk.2
  have htop := top_ok t hos
  have hTr := allS_room (topS t) (planF t inn).1 0 t false hrm hzz
  rw [hall] at hTr
  generalize (planF t inn).1 = steps at *
  have HA := Aside0.mk (fun W v b (h : SideR W b t v) hb Sa sc hl => all_any W t v b h hb Sa sc steps hl hrm hzz htop)
  rw [hall] at HA
  dsimp only at HA hTr HP
  have hT3 := room_len hTr
  have hft := tinyS_open ht
  have HZ := Aside0.mk hzz
  have HCH := Aside0.mk (fun W v p h => Changed_any W t v p h (tinyS_ok ht))
  have HHH := Aside0.mk (fun W A c p hC hp => Has_any W A c inn p hC (by omega) hp)
  have HKL := Aside0.mk (fun p l => @keeps_lm t T inn steps hos hran p l)
  have HKR := Aside0.mk (fun p l => @keeps_rm t T inn steps hos hran p l)
  have HML := Aside0.mk (fun k (hk : k ∈ t.f1) => And.intro (mem_get hos.l.ris hk) ((fewK_open hft.2.1).2 k hk))
  have HMR := Aside0.mk (fun k (hk : k ∈ t.f2) => And.intro (mem_get hos.r.ris hk) ((fewK_open hft.2.2).2 k hk))
  have hl1 := (fewK_open hft.2.1).1
  have hl2 := (fewK_open hft.2.2).1
  clear hgood hbad hok hrun hsz hk hran hos hzz htop hTr hall hrm hft
  go_enter Tryd.func6, Tryd.ntmps6
  go_wp2_with fail
  refine (HF.out _ (bel _ _)).mono ?_
  rintro e1 w1 ⟨v1, rfl, hv, hb⟩
  have p1 := prev_call hb
  have hv := (show ∃ b, b = w.heap.size + 1 ∧ SideR w1 b t v1 from ⟨_, by rw [World.size_alloc], hv⟩)
  obtain ⟨b1, hb1, hv⟩ := hv
  have HV1 := Aside0.mk hv
  obtain ⟨A1, c1, B1, d1, C1, x1, rfl, _, _, _, _, _, _⟩ := hv.side.out
  clear hb hv
  go_wp2_with fail
  refine (HSC.out _ (bel _ _)).mono ?_
  rintro e2 w2 ⟨v2, rfl, hv, hb⟩
  have p2 := prev_call hb
  obtain ⟨A2, c2, rfl⟩ := Kd.R_slice hv
  have HI2 := Aside0.mk hv
  have s2 : w.heap.size < w2.heap.size := held_lt (W := w2) (g := w.heap.size)
  clear hb hv
  go_wp2_with fail
  refine (HP.out _ _ _ _ (SideR.x HV1.out).side (Kd.R_reads' (rowX HI2.out)).2.2 (Kd.R_reads' HI2.out).2.1).mono ?_
  rintro e3 w3 ⟨v3, rfl, hv, hb⟩
  have p3 := prev_call hb
  obtain ⟨A3, c3, rfl⟩ := Kd.R_slice hv
  have s3 : w.heap.size < w3.heap.size := held_lt (W := w3) (g := w.heap.size)
  clear hb
  have HV3 := Aside0.mk (SideR.x (w' := w3) HV1.out)
  have HI3 := Aside0.mk (Kd.R_reads' (rowX (W' := w3) HI2.out)).2.2
  have HS3 := Aside0.mk (Kd.R_reads' hv).2.2
  have hb3 : Go.Proofs.YtjllbkeobibnkaaDoorK.Holds w3 w.heap.size (.cells #[.slice A1 t.f0.length c1, .slice B1 t.f1.length d1, .slice C1 t.f2.length x1] 24 (0, 0)) := inferInstance
  have bw3 : Bel w.heap.size w w3 := inferInstance
  clear hv HV1 HI2 HF HSC HP p1 p2 p3
  go_wp2_with fail
  obtain ⟨wm, hwm⟩ : ∃ W, (w3.alloc (.map #[] 0)).alloc (.map #[] 0) = W := ⟨_, rfl⟩
  have h07 : StrM Tryd.prog 9 9 wm w3.heap.size 0 (toF (steps.take 0)) := by rw [← hwm]; exact strM_prev (strM_made w3)
  have h08 : BoolM Tryd.prog 9 4 wm (w3.heap.size + 1) 0 (stF (steps.take 0)) := by
    rw [← hwm]
    have h := boolM_made (P := Tryd.prog) (kt := 9) (et := 4) (w3.alloc (.map #[] 0))
    rwa [World.size_alloc] at h
  have pm : Below w3.heap.size w3 wm := by rw [← hwm]; exact bel _ _
  rw [hwm]
  clear hwm
  go_loopw [46] (fun i wr => ∃ j : Nat, j ≤ steps.length ∧ i = .int .i64 (j : Int) ∧ Aside0 (StrM Tryd.prog 9 9 wr w3.heap.size j (toF (steps.take j))) ∧ Aside0 (BoolM Tryd.prog 9 4 wr (w3.heap.size + 1) j (stF (steps.take j))) ∧ Aside0 (Below w3.heap.size w3 wr)) (fun i _ => steps.length - (intOf i).toNat)
  case atStart => exact ⟨0, Nat.zero_le _, rfl, ⟨h07⟩, ⟨h08⟩, ⟨pm⟩⟩
  case round =>
    obtain ⟨j, hj, rfl, HM7, HM8, HB⟩ := hrel
    clear h07 h08 pm
    have bw : Bel w3.heap.size w3 wr := ⟨fun _ => HB.out⟩
    have sw := HB.out.size
    have b8 := boolM_lt HM8.out
    by_cases hlt : j < steps.length
    · obtain ⟨ad, e0, x0⟩ := C33_at (Kd.C_below HS3.out HB.out) j hlt
      subst e0
      have hzx := HZ.out _ (List.getElem_mem hlt)
      have ht1 : steps.take (j + 1) = steps.take j ++ [steps[j]] := List.take_succ_eq_append_getElem hlt
      generalize steps[j] = x at x0 hzx ht1
      obtain ⟨k, u, xp, xq⟩ := x
      obtain ⟨e0, e1, e2, e3⟩ := at33 x0
      dsimp only at e0 e1 e2 e3 hzx
      have HT7 : Aside0 (toF (steps.take (j + 1)) = toStep (toF (steps.take j)) ⟨k, u, xp, xq⟩) := ⟨by rw [ht1, toF_snoc]⟩
      have HT8 : Aside0 (stF (steps.take (j + 1)) = stStep (stF (steps.take j)) ⟨k, u, xp, xq⟩) := ⟨by rw [ht1, stF_snoc]⟩
      have HXP : Aside0 (xp.size ≤ Go.maxLen) := ⟨Nat.le_trans hzx.1 (by decide)⟩
      have HXQ : Aside0 (xq.size ≤ Go.maxLen) := ⟨Nat.le_trans hzx.2 (by decide)⟩
      have HJ : Aside0 (j < Go.maxLen) := ⟨Nat.lt_of_lt_of_le (show j < 65536 by omega) (by decide)⟩
      obtain ⟨fb, hfb⟩ : ∃ b, stF (steps.take j) xp = b := ⟨_, rfl⟩
      have HFB := Aside0.mk hfb
      have a7 : Apart w3.heap.size (.row wr.heap.size) := apart_ne (by omega)
      have a8 : Apart (w3.heap.size + 1) (.row wr.heap.size) := apart_ne (by omega)
      have a78 : Apart (w3.heap.size + 1) (.row w3.heap.size) := apart_ne (by omega)
      have a87 : Apart w3.heap.size (.row (w3.heap.size + 1)) := apart_ne (by omega)
      have ax7 : Apart wr.heap.size (.row w3.heap.size) := apart_ne (by omega)
      have ax8 : Apart wr.heap.size (.row (w3.heap.size + 1)) := apart_ne (by omega)
      have ox : OwnB w3.heap.size (.row wr.heap.size) := own_row (by omega)
      have HB8 := Aside0.mk (boolM_prev (W' := wr.alloc (.cells #[.int .i64 k, .int .i64 u, .string xp, .string xq] 33)) HM8.out)
      have HB7 := Aside0.mk (strM_prev (W' := wr.alloc (.cells #[.int .i64 k, .int .i64 u, .string xp, .string xq] 33)) HM7.out)
      clear x0 ht1 hzx hfb HM7 HM8
      by_cases h7 : k = 7
      · subst h7
        have HT7' : Aside0 (toF (steps.take (j + 1)) = updF (toF (steps.take j)) xp (some xq)) := ⟨by rw [HT7.out]; exact if_pos rfl⟩
        cases fb with
        | true =>
          have HT8' : Aside0 (stF (steps.take (j + 1)) = updF (stF (steps.take j)) xp true) := ⟨by rw [HT8.out]; show updF _ xp (stF (steps.take j) xp || ((7 : Int) == 8)) = _; rw [HFB.out]; rfl⟩
          go_wp2_with (first
            | ((with_reducible refine gate_ (Op.mapUpdate 55 (.tmp 53) (.tmp 55) (.tmp 57)) rfl ?_); refine strM_tell rfl (.tmp 53) (.tmp 55) (.tmp 57) rfl hu55 hu9 hu9 HB7.out HJ.out xp xq HXP.out HXQ.out rfl rfl rfl ?_; intro w6 hS6 hg6; have p6 := prev_row hg6; have HS6 := Aside0.mk hS6; have HB9 := Aside0.mk (boolM_prev (W' := w6) HB8.out); clear hS6 hg6)
            | ((with_reducible refine gate_dst (N := 64) rfl ?_); refine boolM_askv rfl (.tmp 61) (.tmp 63) rfl hu56 hu9 hu4 zero4k HB9.out xp HXP.out _ HFB.out rfl rfl ?_)
            | ((with_reducible refine gate_ (Op.mapUpdate 56 (.tmp 58) (.tmp 60) (.tmp 69)) rfl ?_); refine boolM_tell rfl (.tmp 58) (.tmp 60) (.tmp 69) rfl hu56 hu9 hu4 HB9.out HJ.out xp HXP.out true rfl rfl rfl ?_; intro w7 hS7 hg7; have p7 := prev_row hg7; have HS7 := Aside0.mk hS7; clear hS7 hg7))
          go_roundw
          case rel => exact ⟨j + 1, hlt, by go_num, ⟨by rw [HT7'.out]; exact strM_prev HS6.out⟩, ⟨by rw [HT8'.out]; exact HS7.out⟩, ⟨bel _ _⟩⟩
          case measure => simp [intOf]; omega
        | false =>
          have HT8' : Aside0 (stF (steps.take (j + 1)) = updF (stF (steps.take j)) xp false) := ⟨by rw [HT8.out]; show updF _ xp (stF (steps.take j) xp || ((7 : Int) == 8)) = _; rw [HFB.out]; rfl⟩
          go_wp2_with (first
            | ((with_reducible refine gate_ (Op.mapUpdate 55 (.tmp 53) (.tmp 55) (.tmp 57)) rfl ?_); refine strM_tell rfl (.tmp 53) (.tmp 55) (.tmp 57) rfl hu55 hu9 hu9 HB7.out HJ.out xp xq HXP.out HXQ.out rfl rfl rfl ?_; intro w6 hS6 hg6; have p6 := prev_row hg6; have HS6 := Aside0.mk hS6; have HB9 := Aside0.mk (boolM_prev (W' := w6) HB8.out); clear hS6 hg6)
            | ((with_reducible refine gate_dst (N := 64) rfl ?_); refine boolM_askv rfl (.tmp 61) (.tmp 63) rfl hu56 hu9 hu4 zero4k HB9.out xp HXP.out _ HFB.out rfl rfl ?_)
            | ((with_reducible refine gate_ (Op.mapUpdate 56 (.tmp 58) (.tmp 60) (.tmp 69)) rfl ?_); refine boolM_tell rfl (.tmp 58) (.tmp 60) (.tmp 69) rfl hu56 hu9 hu4 HB9.out HJ.out xp HXP.out false rfl rfl rfl ?_; intro w7 hS7 hg7; have p7 := prev_row hg7; have HS7 := Aside0.mk hS7; clear hS7 hg7))
          go_roundw
          case rel => exact ⟨j + 1, hlt, by go_num, ⟨by rw [HT7'.out]; exact strM_prev HS6.out⟩, ⟨by rw [HT8'.out]; exact HS7.out⟩, ⟨bel _ _⟩⟩
          case measure => simp [intOf]; omega
      · have h7b : (k == 7) = false := beq_eq_false_iff_ne.mpr h7
        have HT7' : Aside0 (toF (steps.take (j + 1)) = toF (steps.take j)) := ⟨by rw [HT7.out]; exact if_neg h7⟩
        clear h7
        cases fb with
        | true =>
          have HT8' : Aside0 (stF (steps.take (j + 1)) = updF (stF (steps.take j)) xp true) := ⟨by rw [HT8.out]; show updF _ xp (stF (steps.take j) xp || (k == 8)) = _; rw [HFB.out]; rfl⟩
          have HB9 := HB8
          go_wp2_with (first
            | ((with_reducible refine gate_dst (N := 64) rfl ?_); refine boolM_askv rfl (.tmp 61) (.tmp 63) rfl hu56 hu9 hu4 zero4k HB9.out xp HXP.out _ HFB.out rfl rfl ?_)
            | ((with_reducible refine gate_ (Op.mapUpdate 56 (.tmp 58) (.tmp 60) (.tmp 69)) rfl ?_); refine boolM_tell rfl (.tmp 58) (.tmp 60) (.tmp 69) rfl hu56 hu9 hu4 HB9.out HJ.out xp HXP.out true rfl rfl rfl ?_; intro w7 hS7 hg7; have p7 := prev_row hg7; have HS7 := Aside0.mk hS7; clear hS7 hg7))
          go_roundw
          case rel => exact ⟨j + 1, hlt, by go_num, ⟨by rw [HT7'.out]; exact strM_mono (strM_prev HB7.out) (Nat.le_succ _)⟩, ⟨by rw [HT8'.out]; exact HS7.out⟩, ⟨bel _ _⟩⟩
          case measure => simp [intOf]; omega
        | false =>
          have HT8' : Aside0 (stF (steps.take (j + 1)) = updF (stF (steps.take j)) xp (k == 8)) := ⟨by rw [HT8.out]; show updF _ xp (stF (steps.take j) xp || (k == 8)) = _; rw [HFB.out]; rfl⟩
          have HB9 := HB8
          go_wp2_with (first
            | ((with_reducible refine gate_dst (N := 64) rfl ?_); refine boolM_askv rfl (.tmp 61) (.tmp 63) rfl hu56 hu9 hu4 zero4k HB9.out xp HXP.out _ HFB.out rfl rfl ?_)
            | ((with_reducible refine gate_ (Op.mapUpdate 56 (.tmp 58) (.tmp 60) (.tmp 69)) rfl ?_); refine boolM_tell rfl (.tmp 58) (.tmp 60) (.tmp 69) rfl hu56 hu9 hu4 HB9.out HJ.out xp HXP.out (k == 8) rfl rfl rfl ?_; intro w7 hS7 hg7; have p7 := prev_row hg7; have HS7 := Aside0.mk hS7; clear hS7 hg7))
          go_roundw
          case rel => exact ⟨j + 1, hlt, by go_num, ⟨by rw [HT7'.out]; exact strM_mono (strM_prev HB7.out) (Nat.le_succ _)⟩, ⟨by rw [HT8'.out]; exact HS7.out⟩, ⟨bel _ _⟩⟩
          case measure => simp [intOf]; omega
    · have hjl : steps.take j = steps := List.take_of_length_le (by omega)
      rw [hjl] at HM7 HM8
      have pr := prev_call HB.out
      rename World => wk
      go_wp2_with fail
      refine (HA.out _ _ _ (SideR.x HV3.out) (by omega) _ _ (Kd.C_below HS3.out HB.out)).mono ?_
      rintro e4 w4 ⟨v4, rfl, hv, hb⟩
      have p4 := prev_call hb
      have s4 : w.heap.size < w4.heap.size := held_lt (W := w4) (g := w.heap.size)
      have HT4 := Aside0.mk hv
      obtain ⟨A4, c4, B4, d4, C4, x4, rfl, _, _, _, _, _, _⟩ := hv.side.out
      have a40 : Apart w.heap.size (.row w4.heap.size) := apart_ne (by omega)
      have a41 : Apart w4.heap.size (.row w.heap.size) := apart_ne (by omega)
      have o40 : OwnB w.heap.size (.row w4.heap.size) := own_row (by omega)
      clear hb hv
      go_wp2_with fail
      obtain ⟨w5, hw5⟩ : ∃ W, w4.alloc (.cells #[.slice A4 T.f0.length c4, .slice B4 T.f1.length d4, .slice C4 T.f2.length x4] 24) = W := ⟨_, rfl⟩
      have hbT : Go.Proofs.YtjllbkeobibnkaaDoorK.Holds w5 w4.heap.size (.cells #[.slice A4 T.f0.length c4, .slice B4 T.f1.length d4, .slice C4 T.f2.length x4] 24 (0, 0)) := by rw [← hw5]; infer_instance
      have p5 : Prev w5 w4 .none := by rw [← hw5]; infer_instance
      rw [hw5]
      clear hw5
      have hbS : Go.Proofs.YtjllbkeobibnkaaDoorK.Holds w5 w.heap.size (.cells #[.slice A1 t.f0.length c1, .slice B1 t.f1.length d1, .slice C1 t.f2.length x1] 24 (0, 0)) := inferInstance
      have HS5 := Aside0.mk (SideR.side (SideR.x (w' := w5) HV3.out))
      have HT5 := Aside0.mk (SideR.side (SideR.x (w' := w5) HT4.out))
      have HI5 := Aside0.mk (Kd.C_below HI3.out (bel w3 w5))
      have HM7 := Aside0.mk (strM_prev (W' := w5) (strM_prev (W' := w4) HM7.out))
      have HM8 := Aside0.mk (boolM_prev (W' := w5) (boolM_prev (W' := w4) HM8.out))
      have m7 := strM_lt HM7.out
      have m8 := boolM_lt HM8.out
      have bw5 : Bel w.heap.size w w5 := inferInstance
      have s50 : w.heap.size < w5.heap.size := held_lt (W := w5) (g := w.heap.size)
      have s54 : w4.heap.size < w5.heap.size := held_lt (W := w5) (g := w4.heap.size)
      have HCH5 := Aside0.mk (fun W p (hb : Below w5.heap.size w5 W) => HCH.out W _ p (HS5.out.below hb))
      have HHH5 := Aside0.mk (fun W p (hb : Below w5.heap.size w5 W) hp => HHH.out W _ c2 p (Kd.C_below HI5.out hb) hp)
      have HROW := Aside0.mk (show k58.C w5 B1 t.f1.length t.f1 ∧ k58.C w5 C1 t.f2.length t.f2 ∧ (∀ W p, Below w5.heap.size w5 W → Calls Tryd.prog 21 #[.slice B4 T.f1.length d4, .string p] W fun e w' => e = .returned (.tuple #[.agg (A51 (findS T.f1 p).1), .bool (findS T.f1 p).2]) ∧ Below W.heap.size W w') from by
        obtain ⟨_, _, _, _, _, _, hq, _, _, _, k0, k1, k2⟩ := HS5.out.out
        obtain ⟨_, _, _, _, _, _, hq', _, _, _, j0, j1, j2⟩ := HT5.out.out
        simp only [Array.mk.injEq, List.cons.injEq, Value.slice.injEq, and_true] at hq hq'
        obtain ⟨⟨rfl, _, rfl⟩, ⟨rfl, _, rfl⟩, rfl, _, rfl⟩ := hq
        obtain ⟨⟨rfl, _, rfl⟩, ⟨rfl, _, rfl⟩, rfl, _, rfl⟩ := hq'
        exact ⟨k1, k2, fun W p hb => Find_any W _ _ _ p (Kd.C_below j1 hb) hT3.2.1⟩)
      have HRL := Aside0.mk HROW.out.1
      have HRR := Aside0.mk HROW.out.2.1
      have HFT : Aside0 (∀ W p l', getK T.f1 p = some l' → Below w5.heap.size w5 W → Calls Tryd.prog 21 #[.slice B4 T.f1.length d4, .string p] W fun e w' => e = .returned (.tuple #[.agg (A51 l'), .bool true]) ∧ Below W.heap.size W w') := ⟨fun W p l' hp hb => by
        have h := HROW.out.2.2 W p hb
        rw [find_gd, hp] at h
        exact h⟩
      have HAL := Aside0.mk (fun W x y (h : alikeS x y = true) => (h ▸ Alike_any W x y : Calls Tryd.prog 22 #[.agg (A51 x), .agg (A51 y)] W fun e w' => e = .returned (.bool true) ∧ Below W.heap.size W w'))
      clear HROW HCH HHH HA HS3 HV3 HI3 HT4 HS5 HT5 HI5 pr p4 p5 hb3 bw3
      go_loopw [83] (fun i wr => ∃ j : Nat, j ≤ t.f1.length ∧ i = .int .i64 (j : Int) ∧ Aside0 (Below w5.heap.size w5 wr)) (fun i _ => t.f1.length - (intOf i).toNat)
      case atStart => exact ⟨0, Nat.zero_le _, rfl, ⟨Below.refl _ _⟩⟩
      case round =>
        obtain ⟨j, hj, rfl, HB⟩ := hrel
        have pr := prev_call HB.out
        have zr := siz w5 wr
        by_cases hlt : j < t.f1.length
        · obtain ⟨ad, e0, x0⟩ := C58_at (Kd.C_below HRL.out HB.out) j hlt
          subst e0
          have hk := HML.out _ (List.getElem_mem hlt)
          generalize t.f1[j] = x at x0 hk
          obtain ⟨xp, xa⟩ := x
          dsimp only at hk
          have X0 := Aside0.mk x0
          have hz2 := hk.2
          have HXP : Aside0 (xp.size ≤ Go.maxLen) := ⟨Nat.le_trans hk.2 (by decide)⟩
          have H1 := HKL.out xp xa hk.1
          have HC := Aside0.mk (fun W hb => HCH5.out W xp hb)
          have HH := Aside0.mk (fun W hb => HHH5.out W xp hb (by omega))
          generalize chgS t xp = ch at H1 HC
          obtain ⟨h, th⟩ := ch
          generalize hasS inn xp = b at H1 HH
          dsimp only at H1 HC
          have HX := Aside0.mk H1
          have ob : OwnB w5.heap.size (.row wr.heap.size) := own_row zr
          have ab1 : Apart w.heap.size (.row wr.heap.size) := apart_ne (by omega)
          have ab2 : Apart w4.heap.size (.row wr.heap.size) := apart_ne (by omega)
          clear x0 hk H1
          cases h with
          | false =>
            go_wp2_with (refine seg_load rfl 58 (.tmp 85) rfl X0.out (A58 ⟨xp, xa⟩) rfl rfl Tryd.underlying58 rfl (by rw [L58_len]; exact info58s) ?_)
            refine (HC.out _ (bel _ _)).mono ?_
            rintro r6 w6 ⟨rfl, hb⟩
            have p6 := prev_call hb
            clear hb
            go_wp2_with fail
            go_roundw
            case rel => exact ⟨j + 1, hlt, by go_num, ⟨bel _ _⟩⟩
            case measure => simp [intOf]; omega
          | true =>
            cases b with
            | false =>
              go_wp2_with (refine seg_load rfl 58 (.tmp 85) rfl X0.out (A58 ⟨xp, xa⟩) rfl rfl Tryd.underlying58 rfl (by rw [L58_len]; exact info58s) ?_)
              refine (HC.out _ (bel _ _)).mono ?_
              rintro r6 w6 ⟨rfl, hb⟩
              have p6 := prev_call hb
              clear hb
              go_wp2_with fail
              refine (HH.out _ (bel _ _)).mono ?_
              rintro r7 w7 ⟨rfl, hb⟩
              have p7 := prev_call hb
              clear hb
              go_wp2_with fail
              go_roundw
              case rel => exact ⟨j + 1, hlt, by go_num, ⟨bel _ _⟩⟩
              case measure => simp [intOf]; omega
            | true =>
              have H1 := HX.out rfl rfl
              obtain ⟨q, hq⟩ : ∃ q, toF steps xp = q := ⟨_, rfl⟩
              rw [hq] at H1
              cases q with
              | none =>
                obtain ⟨l1, hl, hal⟩ : ∃ l', getK T.f1 xp = some l' ∧ alikeS l' xa = true := H1
                have HQ1 : Aside0 ((toF steps xp).getD ⟨#[]⟩ = ⟨#[]⟩) := ⟨by rw [hq]; rfl⟩
                have HQ2 : Aside0 ((toF steps xp).isSome = false) := ⟨by rw [hq]; rfl⟩
                have F1 := Aside0.mk (fun W hb => HFT.out W xp l1 hl hb)
                have HA1 := Aside0.mk (fun W => HAL.out W l1 xa hal)
                clear hq hl hal HX
                go_wp2_with (refine seg_load rfl 58 (.tmp 85) rfl X0.out (A58 ⟨xp, xa⟩) rfl rfl Tryd.underlying58 rfl (by rw [L58_len]; exact info58s) ?_)
                refine (HC.out _ (bel _ _)).mono ?_
                rintro r6 w6 ⟨rfl, hb⟩
                have p6 := prev_call hb
                clear hb
                go_wp2_with fail
                refine (HH.out _ (bel _ _)).mono ?_
                rintro r7 w7 ⟨rfl, hb⟩
                have p7 := prev_call hb
                clear hb
                go_wp2_with ((with_reducible refine gate_dst (N := 108) rfl ?_); refine strM_askv rfl (.tmp 106) (.tmp 107) rfl hu55 hu9 hu9 zero9k (strM_block HM7.out ((bel w5 _).block _ m7)) xp HXP.out _ _ HQ1.out HQ2.out rfl rfl ?_)
                refine (F1.out _ (bel _ _)).mono ?_
                rintro r8 w8 ⟨rfl, hb⟩
                have p8 := prev_call hb
                clear hb
                have z8 := siz w5 w8
                have o8 : OwnB w5.heap.size (.row w8.heap.size) := own_row z8
                have a8_0 : Apart (w.heap.size) (.row w8.heap.size) := apart_ne (by omega)
                have a8_1 : Apart (w4.heap.size) (.row w8.heap.size) := apart_ne (by omega)
                have l8_2 : wr.heap.size < w8.heap.size := held_lt (W := w8) (g := wr.heap.size)
                have a8_2 : Apart (wr.heap.size) (.row w8.heap.size) := apart_ne (by omega)
                go_wp2_with fail
                refine (HA1.out _).mono ?_
                rintro r9 w9 ⟨rfl, hb⟩
                have p9 := prev_call hb
                clear hb
                go_wp2_with fail
                go_roundw
                case rel => exact ⟨j + 1, hlt, by go_num, ⟨bel _ _⟩⟩
                case measure => simp [intOf]; omega
              | some q =>
                obtain ⟨l1, hl, hal⟩ : ∃ l', getK T.f1 q = some l' ∧ alikeS l' xa = true := H1
                have HQ1 : Aside0 ((toF steps xp).getD ⟨#[]⟩ = q) := ⟨by rw [hq]; rfl⟩
                have HQ2 : Aside0 ((toF steps xp).isSome = true) := ⟨by rw [hq]; rfl⟩
                have F1 := Aside0.mk (fun W hb => HFT.out W q l1 hl hb)
                have HA1 := Aside0.mk (fun W => HAL.out W l1 xa hal)
                clear hq hl hal HX
                go_wp2_with (refine seg_load rfl 58 (.tmp 85) rfl X0.out (A58 ⟨xp, xa⟩) rfl rfl Tryd.underlying58 rfl (by rw [L58_len]; exact info58s) ?_)
                refine (HC.out _ (bel _ _)).mono ?_
                rintro r6 w6 ⟨rfl, hb⟩
                have p6 := prev_call hb
                clear hb
                go_wp2_with fail
                refine (HH.out _ (bel _ _)).mono ?_
                rintro r7 w7 ⟨rfl, hb⟩
                have p7 := prev_call hb
                clear hb
                go_wp2_with ((with_reducible refine gate_dst (N := 108) rfl ?_); refine strM_askv rfl (.tmp 106) (.tmp 107) rfl hu55 hu9 hu9 zero9k (strM_block HM7.out ((bel w5 _).block _ m7)) xp HXP.out _ _ HQ1.out HQ2.out rfl rfl ?_)
                refine (F1.out _ (bel _ _)).mono ?_
                rintro r8 w8 ⟨rfl, hb⟩
                have p8 := prev_call hb
                clear hb
                have z8 := siz w5 w8
                have o8 : OwnB w5.heap.size (.row w8.heap.size) := own_row z8
                have a8_0 : Apart (w.heap.size) (.row w8.heap.size) := apart_ne (by omega)
                have a8_1 : Apart (w4.heap.size) (.row w8.heap.size) := apart_ne (by omega)
                have l8_2 : wr.heap.size < w8.heap.size := held_lt (W := w8) (g := wr.heap.size)
                have a8_2 : Apart (wr.heap.size) (.row w8.heap.size) := apart_ne (by omega)
                go_wp2_with fail
                refine (HA1.out _).mono ?_
                rintro r9 w9 ⟨rfl, hb⟩
                have p9 := prev_call hb
                clear hb
                go_wp2_with fail
                go_roundw
                case rel => exact ⟨j + 1, hlt, by go_num, ⟨bel _ _⟩⟩
                case measure => simp [intOf]; omega
        · have HBE := HB
          clear HB
          go_wp2_with fail
          go_loopw [133] (fun i wr => ∃ j : Nat, j ≤ t.f2.length ∧ i = .int .i64 (j : Int) ∧ Aside0 (Below w5.heap.size w5 wr)) (fun i _ => t.f2.length - (intOf i).toNat)
          case atStart => exact ⟨0, Nat.zero_le _, rfl, HBE⟩
          case round =>
            obtain ⟨j, hj, rfl, HB⟩ := hrel
            have pr := prev_call HB.out
            have zr := siz w5 wr
            by_cases hlt : j < t.f2.length
            · obtain ⟨ad, e0, x0⟩ := C58_at (Kd.C_below HRR.out HB.out) j hlt
              subst e0
              have hk := HMR.out _ (List.getElem_mem hlt)
              generalize t.f2[j] = x at x0 hk
              obtain ⟨xp, xa⟩ := x
              dsimp only at hk
              have X0 := Aside0.mk x0
              have hz2 := hk.2
              have HXP : Aside0 (xp.size ≤ Go.maxLen) := ⟨Nat.le_trans hk.2 (by decide)⟩
              have H1 := HKR.out xp xa hk.1
              have HC := Aside0.mk (fun W hb => HCH5.out W xp hb)
              have HH := Aside0.mk (fun W hb => HHH5.out W xp hb (by omega))
              generalize chgS t xp = ch at H1 HC
              obtain ⟨h, th⟩ := ch
              generalize hasS inn xp = b at H1 HH
              dsimp only at H1 HC
              have HX := Aside0.mk H1
              have ob : OwnB w5.heap.size (.row wr.heap.size) := own_row zr
              have ab1 : Apart w.heap.size (.row wr.heap.size) := apart_ne (by omega)
              have ab2 : Apart w4.heap.size (.row wr.heap.size) := apart_ne (by omega)
              clear x0 hk H1
              cases th with
              | false =>
                go_wp2_with (refine seg_load rfl 58 (.tmp 135) rfl X0.out (A58 ⟨xp, xa⟩) rfl rfl Tryd.underlying58 rfl (by rw [L58_len]; exact info58s) ?_)
                refine (HC.out _ (bel _ _)).mono ?_
                rintro r6 w6 ⟨rfl, hb⟩
                have p6 := prev_call hb
                clear hb
                go_wp2_with fail
                go_roundw
                case rel => exact ⟨j + 1, hlt, by go_num, ⟨bel _ _⟩⟩
                case measure => simp [intOf]; omega
              | true =>
                cases b with
                | false =>
                  go_wp2_with (refine seg_load rfl 58 (.tmp 135) rfl X0.out (A58 ⟨xp, xa⟩) rfl rfl Tryd.underlying58 rfl (by rw [L58_len]; exact info58s) ?_)
                  refine (HC.out _ (bel _ _)).mono ?_
                  rintro r6 w6 ⟨rfl, hb⟩
                  have p6 := prev_call hb
                  clear hb
                  go_wp2_with fail
                  refine (HH.out _ (bel _ _)).mono ?_
                  rintro r7 w7 ⟨rfl, hb⟩
                  have p7 := prev_call hb
                  clear hb
                  go_wp2_with fail
                  go_roundw
                  case rel => exact ⟨j + 1, hlt, by go_num, ⟨bel _ _⟩⟩
                  case measure => simp [intOf]; omega
                | true =>
                  obtain ⟨q, hq⟩ : ∃ q, stF steps xp = q := ⟨_, rfl⟩
                  have HQ := Aside0.mk hq
                  cases q with
                  | true =>
                    clear hq HX
                    go_wp2_with (refine seg_load rfl 58 (.tmp 135) rfl X0.out (A58 ⟨xp, xa⟩) rfl rfl Tryd.underlying58 rfl (by rw [L58_len]; exact info58s) ?_)
                    refine (HC.out _ (bel _ _)).mono ?_
                    rintro r6 w6 ⟨rfl, hb⟩
                    have p6 := prev_call hb
                    clear hb
                    go_wp2_with fail
                    refine (HH.out _ (bel _ _)).mono ?_
                    rintro r7 w7 ⟨rfl, hb⟩
                    have p7 := prev_call hb
                    clear hb
                    go_wp2_with ((with_reducible refine gate_dst (N := 157) rfl ?_); refine gate_guard (by rfl) ?_; dsimp only; refine boolM_askv rfl (.tmp 154) (.tmp 156) rfl hu56 hu9 hu4 zero4k (boolM_block HM8.out ((bel w5 _).block _ m8)) xp HXP.out _ HQ.out rfl rfl ?_)
                    go_roundw
                    case rel => exact ⟨j + 1, hlt, by go_num, ⟨bel _ _⟩⟩
                    case measure => simp [intOf]; omega
                  | false =>
                    obtain ⟨l1, hl, hal⟩ := HX.out rfl rfl hq
                    have F1 := Aside0.mk (fun W hb => HFT.out W xp l1 hl hb)
                    have HA1 := Aside0.mk (fun W => HAL.out W l1 xa hal)
                    clear hq hl hal HX
                    go_wp2_with (refine seg_load rfl 58 (.tmp 135) rfl X0.out (A58 ⟨xp, xa⟩) rfl rfl Tryd.underlying58 rfl (by rw [L58_len]; exact info58s) ?_)
                    refine (HC.out _ (bel _ _)).mono ?_
                    rintro r6 w6 ⟨rfl, hb⟩
                    have p6 := prev_call hb
                    clear hb
                    go_wp2_with fail
                    refine (HH.out _ (bel _ _)).mono ?_
                    rintro r7 w7 ⟨rfl, hb⟩
                    have p7 := prev_call hb
                    clear hb
                    go_wp2_with ((with_reducible refine gate_dst (N := 157) rfl ?_); refine gate_guard (by rfl) ?_; dsimp only; refine boolM_askv rfl (.tmp 154) (.tmp 156) rfl hu56 hu9 hu4 zero4k (boolM_block HM8.out ((bel w5 _).block _ m8)) xp HXP.out _ HQ.out rfl rfl ?_)
                    refine (F1.out _ (bel _ _)).mono ?_
                    rintro r8 w8 ⟨rfl, hb⟩
                    have p8 := prev_call hb
                    clear hb
                    have z8 := siz w5 w8
                    have o8 : OwnB w5.heap.size (.row w8.heap.size) := own_row z8
                    have a8_0 : Apart (w.heap.size) (.row w8.heap.size) := apart_ne (by omega)
                    have a8_1 : Apart (w4.heap.size) (.row w8.heap.size) := apart_ne (by omega)
                    have l8_2 : wr.heap.size < w8.heap.size := held_lt (W := w8) (g := wr.heap.size)
                    have a8_2 : Apart (wr.heap.size) (.row w8.heap.size) := apart_ne (by omega)
                    go_wp2_with fail
                    refine (HA1.out _).mono ?_
                    rintro r9 w9 ⟨rfl, hb⟩
                    have p9 := prev_call hb
                    clear hb
                    go_wp2_with fail
                    go_roundw
                    case rel => exact ⟨j + 1, hlt, by go_num, ⟨bel _ _⟩⟩
                    case measure => simp [intOf]; omega
            · go_wp2_with fail
              refine (HW.out _).mono ?_
              rintro r6 w6 ⟨rfl, hb⟩
              have p6 := prev_call hb
              clear hb
              go_wp2_with fail
              go_ret
              exact ⟨rfl, bel _ _⟩
end Go.Proofs.YtjllbkeobibnkaaDoor.Q

namespace Go.Proofs.YtjllbkeobibnkaaDoor.mergeKeeps
open Go.ChangeShapes Go.WideShapes Go.ChangeAt Go.RowKit Go.Proofs.YtjllbkeobibnkaaDoorK Go.Proofs.YtjllbkeobibnkaaDoorW.PrintWords Go.Proofs.YtjllbkeobibnkaaDoor.Q
open Go.ChangeMaps (open_string shut_string)
set_option linter.unusedVariables false
theorem own : ownKnob Tryd.prog.godebug = none := by kernel_rfl
theorem laidOut : laidOutB Tryd.prog = true := by kernel_rfl
set_option maxRecDepth 100000 in
theorem lifted (os : Os) (started : os.Started) (H : Type) (enc : TypeId × Value → H) :
    ReturnsInHanded {} Tryd.checked os 6 .any (fun w args => (Rows.mergeKeepsSpec.pre enc Tryd.prog Tryd.f6 Rows.mergeKeepsRow.domain false w args ∧ laidMetH Tryd.prog Rows.mergeKeepsRow.laid w) ∧ sizedMet enc Tryd.prog Tryd.f6 (OpenSpec.ofChange Rows.mergeKeepsSpec) false w args) (Rows.mergeKeepsSpec.post enc Tryd.prog Tryd.f6 false true false false) := by
  refine returnsInHanded_of_change_and (C := Tryd.checked) (X := fun w _ => laidMetH Tryd.prog Rows.mergeKeepsRow.laid w) (fun _ _ _ hh h => h.of_heap hh) own started (by kernel_rfl) Tryd.func6
    (ChangeSpec.witness_shaped (enc := enc) (C := Tryd.checked) (os := os) (X := fun w _ => laidMetH Tryd.prog Rows.mergeKeepsRow.laid w) false (World.laidAll Tryd.prog os Rows.mergeKeepsRow.laid) #[.agg #[.slice none 0 0, .slice none 0 0, .slice none 0 0], .slice none 0 0] 8 (World.laidAll_os _ _ _)
      (World.shaped_of_ZipB (by kernel_rfl) (by kernel_rfl)) (by kernel_rfl) (by kernel_rfl) (by kernel_rfl)
      (by rw [MakeChecks.laidMetH_plain _ _ _ (by kernel_rfl)]; exact laidMet_laidAll _ (by kernel_rfl) (by kernel_rfl))) ?_
  intro W base args ds gs before hval0 hW hcnd hsz0 _ _
  have hsz : (DataW.weightsEach Tryd.prog (Tryd.f6.params.toList ++ Rows.mergeKeepsSpec.plain.varTypes Tryd.prog) (ds ++ gs)).all (· ≤ reachBytes) = true := hsz0
  have hval : ∀ (j : Nat) t v, Tryd.f6.params[j]? = some t → args[j]? = some v → Value.okWide Tryd.prog W .any base t v := hval0
  have hW' := hW
  obtain ⟨p, q, hA0, hV, rfl, hfz, hnd⟩ := hW
  have hA : DataW.TrodAll enc Tryd.prog W 0 (fun _ => true) true Tryd.f6.params.toList args.toList ds p := hA0
  rw [Tryd.params6] at hA hval hsz
  obtain ⟨v0, vs0, d0, ds0, p0, q0, hargs, rfl, rfl, h0, r0⟩ := trodAll_cons hA
  obtain ⟨v1, vs1, d1, ds1, p1, q1, rfl, rfl, rfl, h1, r1⟩ := trodAll_cons r0
  obtain ⟨rfl, rfl, rfl⟩ := trodAll_nil r1
  obtain rfl : args = #[v0, v1] := by cases args; simp_all
  obtain ⟨rfl, rfl⟩ := trodVars_none hV
  obtain ⟨cs0, rfl, hz0⟩ := okWide_struct Tryd.underlying24 (hval 0 24 v0 rfl rfl)
  have k0 := h0
  have lt0 : ∀ x ∈ p0, x.block < W.heap.size := by obtain ⟨m, hm⟩ := k0; exact DataW.trod_lt m _ _ _ hm
  obtain ⟨x0, hK0, _⟩ : ∃ x, k24.K W x cs0.toList ∧ True := by
    obtain ⟨fuel, hf⟩ := h0
    exact opens24 _ _ _ _ _ _ _ _ _ hf
  have hS0 := k24_side hK0
  obtain ⟨a1, len1, cap1, rfl⟩ := okWide_slice Tryd.underlying41 (hval 1 41 v1 rfl rfl)
  have k1 := h1
  have lt1 : ∀ x ∈ p1, x.block < W.heap.size := by obtain ⟨m, hm⟩ := k1; exact DataW.trod_lt m _ _ _ hm
  obtain ⟨l1, ⟨A1, c1, he1, hl1, hC1⟩, _, _⟩ : ∃ l, (Kd.slice 9 Kd.string).K W l [.slice a1 len1 cap1] ∧ l.length ≤ 9223372036854775807 ∧ ∀ a ∈ l, a.size ≤ 9223372036854775807 := by
    obtain ⟨fuel, hf⟩ := h1
    exact (opens_slice (e := 9) Tryd.underlying41 (by kernel_rfl) (opens_string Tryd.underlying9)) _ _ _ _ _ _ _ _ _ hf
  simp only [List.cons.injEq, Value.slice.injEq, and_true] at he1
  obtain ⟨rfl, rfl, rfl⟩ := he1
  clear hA0 hval0 hsz0 hsz
  refine (keeps_any W x0 _ _ _ l1 hS0 hC1 hl1).mono fun e W' he0 => ?_
  obtain ⟨rfl, bel0⟩ := he0
  have bel : Below W.heap.size W W' := bel0
  exact ⟨_, rfl, _, _, _, [], _, [], hW', trodAll_mk1 (shut_bool Tryd.underlying4 _), (trodAll_cons_mk (Below.trod laidOut (by kernel_rfl) (of_decide_eq_true (by kernel_rfl)) k0 bel lt0) (trodAll_cons_mk (Below.trod laidOut (by kernel_rfl) (of_decide_eq_true (by kernel_rfl)) k1 bel lt1) trodAll_mk0)), rfl, bel.frame _, fun h => by cases h⟩
theorem over : Rows.mergeKeepsRow.holds Tryd.pinned (OpenSpec.ofChange Rows.mergeKeepsSpec) :=
  OpenClaim.holds_of_wide 6 Tryd.f6 rfl rfl rfl rfl rfl rfl rfl ⟨rfl, rfl, rfl, rfl, rfl⟩ rfl rfl rfl rfl rfl (by kernel_rfl) Tryd.func6 (by kernel_rfl)
    (of_decide_eq_true (by kernel_rfl)) (by unfold Func.isWrapper; first | (rw [if_pos (by decide +kernel)]; kernel_rfl) | (rw [if_neg (by decide +kernel)]; exact ⟨rfl, rfl⟩))
    (fun os started H enc _ => lifted os started H enc)
theorem card : Rows.MergeKeepsCardSaid :=
  Claim7.holds_tied_plain_at .later [] [.data, .pinned] true (true, "78899013b187db133d03f13ef116ebf99bfe5271257e851bcb492081257ec2bb") false over (fun _ h => by cases h) (by kernel_rfl) (fun _ h => by cases h) mergeKeeps_row_tie rfl ⟨rfl, rfl⟩ (by kernel_rfl) rfl
    (fun f fn hf hfn => by
      obtain rfl : f = 6 := Option.some.inj ((show Tryd.prog.funcNamed "aquifer/aquiferlaw28.MergeKeeps" = some 6 by kernel_rfl).symm.trans hf) |>.symm
      obtain rfl : fn = Tryd.f6 := (Option.some.inj (Tryd.func6.symm.trans hfn)).symm
      exact ⟨by kernel_rfl, fun j t ht => by
        rw [Tryd.params6] at ht
        have hm : t ∈ [24, 41] := by simpa using Array.mem_of_getElem? ht
        have hall : ([24, 41].all fun u => !Tryd.prog.wantsStandIn u) = true := by kernel_rfl
        exact (show Tryd.prog.wantsStandIn t = false by simpa using List.all_eq_true.1 hall t hm)⟩)
    (by kernel_rfl)
theorem proved : Rows.MergeKeepsCardSaid := card
#print axioms proved
end Go.Proofs.YtjllbkeobibnkaaDoor.mergeKeeps
namespace Go.Proofs.YtjllbkeobibnkaaDoor
/-- The card, under a short name, for the claim. -/
theorem mergeKeeps_holds : Rows.MergeKeepsCardSaid := mergeKeeps.proved
end Go.Proofs.YtjllbkeobibnkaaDoor
