/-
What is proved: aquifer/aquiferlaw28.MergeOneSide answers true for every input, and leaves its arguments as they were.
-/
import Derived.Test.YtjllbkeobibnkaaDoorZO7
import Derived.Test.YtjllbkeobibnkaaDoorZO8
import Derived.Test.YtjllbkeobibnkaaDoorRows
import Derived.Test.YtjllbkeobibnkaaDoorCards
import Derived.Test.YtjllbkeobibnkaaDoorTie
import Derived.Test.YtjllbkeobibnkaaDoorZO1
import Derived.WalkKit
import Derived.ProofKit
import Derived.OpenShut
import Derived.ShutString
import Derived.ChangeOld
import Derived.Below
import Derived.SizedLaws
import Derived.LaidLaws
import Derived.LaidMore
import Derived.Lay
import Derived.SevenTiedAt
import Derived.Stop.Joined
set_option linter.unusedVariables false
set_option linter.unusedSimpArgs false
namespace Go.Proofs.YtjllbkeobibnkaaDoor.Q
open Go Go.Proofs Go.Shelf Go.RowKit Go.Lib Go.Sort Go.Proofs.YtjllbkeobibnkaaDoorP Go.Proofs.YtjllbkeobibnkaaDoorK Go.Proofs.YtjllbkeobibnkaaDoorW.PrintWords Go.Proofs.YtjllbkeobibnkaaDoorW.PrintLast Go.Proofs.YtjllbkeobibnkaaDoorW.PrintMore
set_option linter.unusedSimpArgs false
set_option linter.unusedVariables false
instance : Go.Proofs.YtjllbkeobibnkaaDoorK.NotIn 51 (58 :: k58.E) := ⟨by decide⟩
instance : Go.Proofs.YtjllbkeobibnkaaDoorK.NotIn 51 (9 :: Kd.string.E) := ⟨by decide⟩
instance : Go.Proofs.YtjllbkeobibnkaaDoorK.NotIn 24 (33 :: k33.E) := ⟨by decide⟩
attribute [local go_sem] A51_size A51_0 A51_1 A51_g0 A51_g1 A58_size A58_0 A58_1 A58_2 A58_g0 A58_g1 A58_g2 cell_held frozen_held
attribute [local go_sem] zero51 zero58 zero65 A33
attribute [local go_sem ↓ high] lvx_of
attribute [local go_sem] lv_sc lv24 lv33
attribute [local go_sem ↓ high] lv51 lv51s lv58 lv58a lv65 lv65a lv65l lv65r sc51 sc58 sc65 sc65a sc65l sc65r sc58a
set_option maxRecDepth 100000 in
set_option maxHeartbeats 4000000 in
theorem one_any (w : World) (s : S24) (v : Array Value) (A0 : Option Addr) (c0 : Nat) (l : List ByteArray) (hs : SideIn w s v) (hC : Kd.C Kd.string w A0 l.length l) (hc : l.length ≤ c0) :
    Calls Tryd.prog 7 #[.agg v, .slice A0 l.length c0] w fun e w' => e = .returned (.bool true) ∧ Below w.heap.size w w' := by
  have HF := Aside0.mk (fun W (hb : Below w.heap.size w W) => Few_any W s v (hs.below hb))
  have HSC := Aside0.mk (fun W (hb : Below w.heap.size w W) => scoped_any W A0 c0 l (Kd.C_below hC hb) hc)
  have ht := fewS_tiny s
  have hil := sc_len l
  have hsh := sc_short l
  have hrm := few_room s (scL l)
  have hln := few_plan s (scL l)
  generalize fewS s = t at *
  generalize scL l = inn at *
  have HP := Aside0.mk (fun W v A c h hC hc => plan_any W t v A c inn h ht hC hc hsh)
  have HW := Aside0.mk (fun W => works_any W)
  have hgood := @planS_good t inn
  have hbad := @planS_bad t inn
  have hok : checkS t = 0 → OkS t := (check_iff t).1
  have hrun := @run_plan t inn
  have hsz := @plan_size t inn
  obtain ⟨A, c, B, d, C, e, rfl, l1, l2, l3, h1, h2, h3⟩ := hs.out
  clear hs l1 l2 l3 h1 h2 h3 hC hc
  generalize s.f0.length = n0 at *
  generalize s.f1.length = n1 at *
  generalize s.f2.length = n2 at *
  generalize l.length = n3 at *
  by_cases hk : checkS t = 0 ∧ mayS inn = true
  rotate_left
  · rw [hbad hk] at HP
    clear hgood hbad hok hrun hsz hk
    go_enter Tryd.func7, Tryd.ntmps7
    go_wp2_with fail
    refine (HF.out _ (bel _ _)).mono ?_
    rintro e1 w1 ⟨v1, rfl, hv, hb⟩
    have p1 := prev_call hb
    have hv := (show ∃ b, b = w.heap.size + 1 ∧ SideR w1 b t v1 from ⟨_, by rw [World.size_alloc], hv⟩)
    obtain ⟨b1, hb1, hv⟩ := hv
    have HV1 := Aside0.mk hv
    obtain ⟨A1, c1, B1, d1, C1, x1, rfl, _, _, _, _, _, _⟩ := hv.side.out
    clear hb hv
    go_wp2_with fail
    refine (HSC.out _ (bel _ _)).mono ?_
    rintro e2 w2 ⟨v2, rfl, hv, hb⟩
    have p2 := prev_call hb
    obtain ⟨A2, c2, rfl⟩ := Kd.R_slice hv
    have HI2 := Aside0.mk hv
    have s2 : w.heap.size < w2.heap.size := held_lt (W := w2) (g := w.heap.size)
    clear hb hv
    go_wp2_with fail
    refine (HP.out _ _ _ _ (SideR.x HV1.out).side (Kd.R_reads' (rowX HI2.out)).2.2 (Kd.R_reads' HI2.out).2.1).mono ?_
    rintro e3 w3 ⟨v3, rfl, hv, hb⟩
    have p3 := prev_call hb
    clear hb hv
    go_wp2_with fail
    refine (HW.out _).mono ?_
    rintro e4 w4 ⟨rfl, hb⟩
    have p4 := prev_call hb
    clear hb
    go_wp2_with fail
    go_ret
    exact ⟨rfl, bel _ _⟩
  rw [hgood hk] at HP
  obtain ⟨T, st, hall, hran⟩ := hrun (hok hk.1) hk.2
  have hos := hok hk.1
  have hzz := hsz hk.2
  have htop := top_ok t hos
  have hTr := allS_room (topS t) (planF t inn).1 0 t false hrm hzz
  rw [hall] at hTr
  generalize (planF t inn).1 = steps at *
  have HA := Aside0.mk (fun W v b (h : SideR W b t v) hb Sa sc hl => all_any W t v b h hb Sa sc steps hl hrm hzz htop)
  rw [hall] at HA
  dsimp only at HA hTr HP
  have hT3 := room_len hTr
  have ht3 := shortS_open (okS_short (tinyS_ok ht))
  have HPA := Aside0.mk (fun W v h => rpaths_any W t v h ht)
  have HCH := Aside0.mk (fun W v p h => Changed_any W t v p h (tinyS_ok ht))
  have HHH := Aside0.mk (fun W A c p hC hp => Has_any W A c inn p hC (by omega) hp)
  have HRAN := Aside0.mk hran
  have HOS := Aside0.mk hos
  clear hgood hbad hok hrun hsz hk hran hos hzz htop hTr hall hrm
  go_enter Tryd.func7, Tryd.ntmps7
  go_wp2_with fail
  refine (HF.out _ (bel _ _)).mono ?_
  rintro e1 w1 ⟨v1, rfl, hv, hb⟩
  have p1 := prev_call hb
  have hv := (show ∃ b, b = w.heap.size + 1 ∧ SideR w1 b t v1 from ⟨_, by rw [World.size_alloc], hv⟩)
  obtain ⟨b1, hb1, hv⟩ := hv
  have HV1 := Aside0.mk hv
  obtain ⟨A1, c1, B1, d1, C1, x1, rfl, _, _, _, _, _, _⟩ := hv.side.out
  clear hb hv
  go_wp2_with fail
  refine (HSC.out _ (bel _ _)).mono ?_
  rintro e2 w2 ⟨v2, rfl, hv, hb⟩
  have p2 := prev_call hb
  obtain ⟨A2, c2, rfl⟩ := Kd.R_slice hv
  have HI2 := Aside0.mk hv
  have s2 : w.heap.size < w2.heap.size := held_lt (W := w2) (g := w.heap.size)
  clear hb hv
  go_wp2_with fail
  refine (HP.out _ _ _ _ (SideR.x HV1.out).side (Kd.R_reads' (rowX HI2.out)).2.2 (Kd.R_reads' HI2.out).2.1).mono ?_
  rintro e3 w3 ⟨v3, rfl, hv, hb⟩
  have p3 := prev_call hb
  obtain ⟨A3, c3, rfl⟩ := Kd.R_slice hv
  have HS3 := Aside0.mk hv
  have s3 : w.heap.size < w3.heap.size := held_lt (W := w3) (g := w.heap.size)
  clear hb hv
  go_wp2_with fail
  refine (HA.out _ _ _ (SideR.x HV1.out) (by omega) _ _ (Kd.R_reads' HS3.out).2.2).mono ?_
  rintro e4 w4 ⟨v4, rfl, hv, hb⟩
  have p4 := prev_call hb
  have s4 : w.heap.size < w4.heap.size := held_lt (W := w4) (g := w.heap.size)
  have HT4 := Aside0.mk hv
  obtain ⟨A4, c4, B4, d4, C4, x4, rfl, _, _, _, _, _, _⟩ := hv.side.out
  have a40 : Apart w.heap.size (.row w4.heap.size) := apart_ne (by omega)
  have a41 : Apart w4.heap.size (.row w.heap.size) := apart_ne (by omega)
  have o40 : OwnB w.heap.size (.row w4.heap.size) := own_row (by omega)
  clear hb hv
  go_wp2_with fail
  refine (HPA.out _ _ (SideR.x HV1.out).side).mono ?_
  rintro e5 w5 ⟨v5, m, rfl, hv, hm1, hm2, hm3, hb⟩
  have p5 := prev_call hb
  obtain ⟨A5, c5, rfl⟩ := Kd.R_slice hv
  have HM5 := Aside0.mk hv
  have HMF := Aside0.mk (And.intro hm1 hm3)
  clear hb hv hm1 hm3
  go_wp2_with fail
  have HS5 := Aside0.mk (SideR.side (SideR.x (w' := w5) HV1.out))
  have HT5 := Aside0.mk (SideR.side (SideR.x (w' := w5) HT4.out))
  have HI5 := Aside0.mk (Kd.R_reads' (rowX (W' := w5) HI2.out)).2.2
  have HM := Aside0.mk (Kd.R_reads' HM5.out).2.2
  have hb2 : Go.Proofs.YtjllbkeobibnkaaDoorK.Holds w5 w.heap.size (.cells #[.slice A1 t.f0.length c1, .slice B1 t.f1.length d1, .slice C1 t.f2.length x1] 24 (0, 0)) := inferInstance
  have hb7 : Go.Proofs.YtjllbkeobibnkaaDoorK.Holds w5 w4.heap.size (.cells #[.slice A4 T.f0.length c4, .slice B4 T.f1.length d4, .slice C4 T.f2.length x4] 24 (0, 0)) := inferInstance
  have bw5 : Bel w.heap.size w w5 := inferInstance
  have s50 : w.heap.size < w5.heap.size := held_lt (W := w5) (g := w.heap.size)
  have s54 : w4.heap.size < w5.heap.size := held_lt (W := w5) (g := w4.heap.size)
  have HCH5 := Aside0.mk (fun W p (hb : Below w5.heap.size w5 W) => HCH.out W _ p (HS5.out.below hb))
  have HHH5 := Aside0.mk (fun W p (hb : Below w5.heap.size w5 W) hp => HHH.out W _ c2 p (Kd.C_below HI5.out hb) hp)
  have HFI := Aside0.mk (show (∀ W p, Below w5.heap.size w5 W → Calls Tryd.prog 21 #[.slice B1 t.f1.length d1, .string p] W fun e w' => e = .returned (.tuple #[.agg (A51 (findS t.f1 p).1), .bool (findS t.f1 p).2]) ∧ Below W.heap.size W w') ∧ (∀ W p, Below w5.heap.size w5 W → Calls Tryd.prog 21 #[.slice C1 t.f2.length x1, .string p] W fun e w' => e = .returned (.tuple #[.agg (A51 (findS t.f2 p).1), .bool (findS t.f2 p).2]) ∧ Below W.heap.size W w') ∧ (∀ W p, Below w5.heap.size w5 W → Calls Tryd.prog 21 #[.slice B4 T.f1.length d4, .string p] W fun e w' => e = .returned (.tuple #[.agg (A51 (findS T.f1 p).1), .bool (findS T.f1 p).2]) ∧ Below W.heap.size W w') ∧ (∀ W p, Below w5.heap.size w5 W → Calls Tryd.prog 21 #[.slice C4 T.f2.length x4, .string p] W fun e w' => e = .returned (.tuple #[.agg (A51 (findS T.f2 p).1), .bool (findS T.f2 p).2]) ∧ Below W.heap.size W w') ∧ (∀ W p, Below w5.heap.size w5 W → Calls Tryd.prog 21 #[.slice A4 T.f0.length c4, .string p] W fun e w' => e = .returned (.tuple #[.agg (A51 (findS T.f0 p).1), .bool (findS T.f0 p).2]) ∧ Below W.heap.size W w') from by
    obtain ⟨_, _, _, _, _, _, hq, _, _, _, k0, k1, k2⟩ := HS5.out.out
    obtain ⟨_, _, _, _, _, _, hq', _, _, _, j0, j1, j2⟩ := HT5.out.out
    simp only [Array.mk.injEq, List.cons.injEq, Value.slice.injEq, and_true] at hq hq'
    obtain ⟨⟨rfl, _, rfl⟩, ⟨rfl, _, rfl⟩, rfl, _, rfl⟩ := hq
    obtain ⟨⟨rfl, _, rfl⟩, ⟨rfl, _, rfl⟩, rfl, _, rfl⟩ := hq'
    exact ⟨fun W p hb => Find_any W _ _ _ p (Kd.C_below k1 hb) ht3.2.1, fun W p hb => Find_any W _ _ _ p (Kd.C_below k2 hb) ht3.2.2, fun W p hb => Find_any W _ _ _ p (Kd.C_below j1 hb) hT3.2.1, fun W p hb => Find_any W _ _ _ p (Kd.C_below j2 hb) hT3.2.2, fun W p hb => Find_any W _ _ _ p (Kd.C_below j0 hb) hT3.1⟩)
  clear HF HSC HP HA HPA HCH HHH HS3 HV1 HT4 HI2 HM5 HS5 HT5 HI5 p1 p2 p3 p4 p5
  go_loopw [47] (fun i wr => ∃ j : Nat, j ≤ m.length ∧ i = .int .i64 (j : Int) ∧ Aside0 (Below w5.heap.size w5 wr)) (fun i _ => m.length - (intOf i).toNat)
  case atStart => exact ⟨0, Nat.zero_le _, rfl, ⟨Below.refl _ _⟩⟩
  case round =>
    obtain ⟨j, hj, rfl, HB⟩ := hrel
    have pr := prev_call HB.out
    by_cases hlt : j < m.length
    · obtain ⟨ad, e0, x0⟩ := C_str' (Kd.C_below HM.out HB.out) j hlt
      subst e0
      have hkp := HMF.out.1 _ (List.getElem_mem hlt)
      have hzp := HMF.out.2 _ (List.getElem_mem hlt)
      have hd := decide_eq_true (show (j : Int) < (m.length : Int) by omega)
      generalize m[j] = p at x0 hkp hzp
      have H1 := one_side HOS.out HRAN.out hkp
      have HC := Aside0.mk (fun W hb => HCH5.out W p hb)
      have HH := Aside0.mk (fun W hb => HHH5.out W p hb (by omega))
      have F1 := Aside0.mk (fun W hb => HFI.out.1 W p hb)
      have F2 := Aside0.mk (fun W hb => HFI.out.2.1 W p hb)
      have F3 := Aside0.mk (fun W hb => HFI.out.2.2.1 W p hb)
      have F4 := Aside0.mk (fun W hb => HFI.out.2.2.2.1 W p hb)
      have F5 := Aside0.mk (fun W hb => HFI.out.2.2.2.2 W p hb)
      simp only [find_gd] at F1 F2 F3 F4 F5
      generalize getK t.f1 p = g1 at H1 F1
      generalize getK t.f2 p = g2 at H1 F2
      generalize getK T.f1 p = g3 at H1 F3
      generalize getK T.f2 p = g4 at H1 F4
      generalize getK T.f0 p = g5 at H1 F5
      generalize chgS t p = ch at H1 HC
      obtain ⟨h, th⟩ := ch
      generalize hasS inn p = b at H1 HH
      dsimp only at H1 HC
      have HX := Aside0.mk H1
      clear H1 hkp hzp hd
      have HAL := Aside0.mk (fun W x y => Alike_any W x y)
      cases b with
      | false =>
        clear HX F1 F2 F3 F4 F5 HAL
        go_wp2_with fail
        refine (HC.out _ (bel _ _)).mono ?_
        rintro r1 w6 ⟨rfl, hb⟩
        have p6 := prev_call hb
        clear hb
        go_wp2_with fail
        refine (HH.out _ (bel _ _)).mono ?_
        rintro r2 w7 ⟨rfl, hb⟩
        have p7 := prev_call hb
        clear hb
        go_wp2_with fail
        go_roundw
        case rel => exact ⟨j + 1, by omega, by go_num, ⟨bel _ _⟩⟩
        case measure => simp [intOf]; omega
      | true =>
      cases h with
      | false =>
        cases th with
        | false =>
            have H1 := HX.out (by decide) rfl
            clear HX
            simp only [reduceIte, Bool.false_eq_true, forall_const, true_implies] at H1
            rcases H1 with ⟨e1, e2, e3, e4⟩ | ⟨wx, ax, lx, rx, e1, e2, e3, e4, hal, har, hv1, hv2⟩
            · subst e1 e2 e3 e4
              clear F2
              dsimp only [Option.getD, Option.isSome] at F1 F3 F4 F5
              go_wp2_with fail
              refine (HC.out _ (bel _ _)).mono ?_
              rintro r6 w6 ⟨rfl, hb⟩
              have p6 := prev_call hb
              clear hb
              go_wp2_with fail
              refine (HH.out _ (bel _ _)).mono ?_
              rintro r7 w7 ⟨rfl, hb⟩
              have p7 := prev_call hb
              clear hb
              go_wp2_with fail
              refine (F1.out _ (bel _ _)).mono ?_
              rintro r8 w8 ⟨rfl, hb⟩
              have p8 := prev_call hb
              clear hb
              have z8 := siz w5 w8
              have o8 : OwnB w5.heap.size (.row w8.heap.size) := own_row z8
              have a8_0 : Apart (w.heap.size) (.row w8.heap.size) := apart_ne (by omega)
              have a8_1 : Apart (w4.heap.size) (.row w8.heap.size) := apart_ne (by omega)
              go_wp2_with fail
              refine (F3.out _ (bel _ _)).mono ?_
              rintro r10 w10 ⟨rfl, hb⟩
              have p10 := prev_call hb
              clear hb
              have z10 := siz w5 w10
              have o10 : OwnB w5.heap.size (.row w10.heap.size) := own_row z10
              have a10_0 : Apart (w.heap.size) (.row w10.heap.size) := apart_ne (by omega)
              have a10_1 : Apart (w4.heap.size) (.row w10.heap.size) := apart_ne (by omega)
              have l10_2 : w8.heap.size < w10.heap.size := held_lt (W := w10) (g := w8.heap.size)
              have a10_2 : Apart (w8.heap.size) (.row w10.heap.size) := apart_ne (by omega)
              go_wp2_with fail
              refine (F4.out _ (bel _ _)).mono ?_
              rintro r11 w11 ⟨rfl, hb⟩
              have p11 := prev_call hb
              clear hb
              have z11 := siz w5 w11
              have o11 : OwnB w5.heap.size (.row w11.heap.size) := own_row z11
              have a11_0 : Apart (w.heap.size) (.row w11.heap.size) := apart_ne (by omega)
              have a11_1 : Apart (w4.heap.size) (.row w11.heap.size) := apart_ne (by omega)
              have l11_2 : w8.heap.size < w11.heap.size := held_lt (W := w11) (g := w8.heap.size)
              have a11_2 : Apart (w8.heap.size) (.row w11.heap.size) := apart_ne (by omega)
              have l11_3 : w10.heap.size < w11.heap.size := held_lt (W := w11) (g := w10.heap.size)
              have a11_3 : Apart (w10.heap.size) (.row w11.heap.size) := apart_ne (by omega)
              go_wp2_with fail
              refine (F5.out _ (bel _ _)).mono ?_
              rintro r12 w12 ⟨rfl, hb⟩
              have p12 := prev_call hb
              clear hb
              have z12 := siz w5 w12
              have o12 : OwnB w5.heap.size (.row w12.heap.size) := own_row z12
              have a12_0 : Apart (w.heap.size) (.row w12.heap.size) := apart_ne (by omega)
              have a12_1 : Apart (w4.heap.size) (.row w12.heap.size) := apart_ne (by omega)
              have l12_2 : w8.heap.size < w12.heap.size := held_lt (W := w12) (g := w8.heap.size)
              have a12_2 : Apart (w8.heap.size) (.row w12.heap.size) := apart_ne (by omega)
              have l12_3 : w10.heap.size < w12.heap.size := held_lt (W := w12) (g := w10.heap.size)
              have a12_3 : Apart (w10.heap.size) (.row w12.heap.size) := apart_ne (by omega)
              have l12_4 : w11.heap.size < w12.heap.size := held_lt (W := w12) (g := w11.heap.size)
              have a12_4 : Apart (w11.heap.size) (.row w12.heap.size) := apart_ne (by omega)
              go_wp2_with fail
              go_roundw
              case rel => exact ⟨j + 1, by omega, by go_num, ⟨bel _ _⟩⟩
              case measure => simp [intOf]; omega
            · subst e1 e2 e3 e4
              clear F2
              dsimp only [Option.getD, Option.isSome] at F1 F3 F4 F5
              have HA1 := Aside0.mk (fun W => HAL.out W lx wx)
              have HA2 := Aside0.mk (fun W => HAL.out W rx wx)
              rw [hal] at HA1
              have hb1 : (ax.f0 != rx.f0) = false := by rw [hv1]; simp
              have hb2 : (lx.f0 != rx.f0) = false := by rw [hv2]; simp
              generalize alikeS rx wx = q at HA2
              clear hal har hv1 hv2
              cases q with
              | false =>
                go_wp2_with fail
                refine (HC.out _ (bel _ _)).mono ?_
                rintro r6 w6 ⟨rfl, hb⟩
                have p6 := prev_call hb
                clear hb
                go_wp2_with fail
                refine (HH.out _ (bel _ _)).mono ?_
                rintro r7 w7 ⟨rfl, hb⟩
                have p7 := prev_call hb
                clear hb
                go_wp2_with fail
                refine (F1.out _ (bel _ _)).mono ?_
                rintro r8 w8 ⟨rfl, hb⟩
                have p8 := prev_call hb
                clear hb
                have z8 := siz w5 w8
                have o8 : OwnB w5.heap.size (.row w8.heap.size) := own_row z8
                have a8_0 : Apart (w.heap.size) (.row w8.heap.size) := apart_ne (by omega)
                have a8_1 : Apart (w4.heap.size) (.row w8.heap.size) := apart_ne (by omega)
                go_wp2_with fail
                refine (F3.out _ (bel _ _)).mono ?_
                rintro r10 w10 ⟨rfl, hb⟩
                have p10 := prev_call hb
                clear hb
                have z10 := siz w5 w10
                have o10 : OwnB w5.heap.size (.row w10.heap.size) := own_row z10
                have a10_0 : Apart (w.heap.size) (.row w10.heap.size) := apart_ne (by omega)
                have a10_1 : Apart (w4.heap.size) (.row w10.heap.size) := apart_ne (by omega)
                have l10_2 : w8.heap.size < w10.heap.size := held_lt (W := w10) (g := w8.heap.size)
                have a10_2 : Apart (w8.heap.size) (.row w10.heap.size) := apart_ne (by omega)
                go_wp2_with fail
                refine (F4.out _ (bel _ _)).mono ?_
                rintro r11 w11 ⟨rfl, hb⟩
                have p11 := prev_call hb
                clear hb
                have z11 := siz w5 w11
                have o11 : OwnB w5.heap.size (.row w11.heap.size) := own_row z11
                have a11_0 : Apart (w.heap.size) (.row w11.heap.size) := apart_ne (by omega)
                have a11_1 : Apart (w4.heap.size) (.row w11.heap.size) := apart_ne (by omega)
                have l11_2 : w8.heap.size < w11.heap.size := held_lt (W := w11) (g := w8.heap.size)
                have a11_2 : Apart (w8.heap.size) (.row w11.heap.size) := apart_ne (by omega)
                have l11_3 : w10.heap.size < w11.heap.size := held_lt (W := w11) (g := w10.heap.size)
                have a11_3 : Apart (w10.heap.size) (.row w11.heap.size) := apart_ne (by omega)
                go_wp2_with fail
                refine (F5.out _ (bel _ _)).mono ?_
                rintro r12 w12 ⟨rfl, hb⟩
                have p12 := prev_call hb
                clear hb
                have z12 := siz w5 w12
                have o12 : OwnB w5.heap.size (.row w12.heap.size) := own_row z12
                have a12_0 : Apart (w.heap.size) (.row w12.heap.size) := apart_ne (by omega)
                have a12_1 : Apart (w4.heap.size) (.row w12.heap.size) := apart_ne (by omega)
                have l12_2 : w8.heap.size < w12.heap.size := held_lt (W := w12) (g := w8.heap.size)
                have a12_2 : Apart (w8.heap.size) (.row w12.heap.size) := apart_ne (by omega)
                have l12_3 : w10.heap.size < w12.heap.size := held_lt (W := w12) (g := w10.heap.size)
                have a12_3 : Apart (w10.heap.size) (.row w12.heap.size) := apart_ne (by omega)
                have l12_4 : w11.heap.size < w12.heap.size := held_lt (W := w12) (g := w11.heap.size)
                have a12_4 : Apart (w11.heap.size) (.row w12.heap.size) := apart_ne (by omega)
                go_wp2_with fail
                refine (HA1.out _).mono ?_
                rintro r13 w13 ⟨rfl, hb⟩
                have p13 := prev_call hb
                clear hb
                go_wp2_with fail
                refine (HA2.out _).mono ?_
                rintro r14 w14 ⟨rfl, hb⟩
                have p14 := prev_call hb
                clear hb
                go_wp2_with fail
                go_roundw
                case rel => exact ⟨j + 1, by omega, by go_num, ⟨bel _ _⟩⟩
                case measure => simp [intOf]; omega
              | true =>
                go_wp2_with fail
                refine (HC.out _ (bel _ _)).mono ?_
                rintro r6 w6 ⟨rfl, hb⟩
                have p6 := prev_call hb
                clear hb
                go_wp2_with fail
                refine (HH.out _ (bel _ _)).mono ?_
                rintro r7 w7 ⟨rfl, hb⟩
                have p7 := prev_call hb
                clear hb
                go_wp2_with fail
                refine (F1.out _ (bel _ _)).mono ?_
                rintro r8 w8 ⟨rfl, hb⟩
                have p8 := prev_call hb
                clear hb
                have z8 := siz w5 w8
                have o8 : OwnB w5.heap.size (.row w8.heap.size) := own_row z8
                have a8_0 : Apart (w.heap.size) (.row w8.heap.size) := apart_ne (by omega)
                have a8_1 : Apart (w4.heap.size) (.row w8.heap.size) := apart_ne (by omega)
                go_wp2_with fail
                refine (F3.out _ (bel _ _)).mono ?_
                rintro r10 w10 ⟨rfl, hb⟩
                have p10 := prev_call hb
                clear hb
                have z10 := siz w5 w10
                have o10 : OwnB w5.heap.size (.row w10.heap.size) := own_row z10
                have a10_0 : Apart (w.heap.size) (.row w10.heap.size) := apart_ne (by omega)
                have a10_1 : Apart (w4.heap.size) (.row w10.heap.size) := apart_ne (by omega)
                have l10_2 : w8.heap.size < w10.heap.size := held_lt (W := w10) (g := w8.heap.size)
                have a10_2 : Apart (w8.heap.size) (.row w10.heap.size) := apart_ne (by omega)
                go_wp2_with fail
                refine (F4.out _ (bel _ _)).mono ?_
                rintro r11 w11 ⟨rfl, hb⟩
                have p11 := prev_call hb
                clear hb
                have z11 := siz w5 w11
                have o11 : OwnB w5.heap.size (.row w11.heap.size) := own_row z11
                have a11_0 : Apart (w.heap.size) (.row w11.heap.size) := apart_ne (by omega)
                have a11_1 : Apart (w4.heap.size) (.row w11.heap.size) := apart_ne (by omega)
                have l11_2 : w8.heap.size < w11.heap.size := held_lt (W := w11) (g := w8.heap.size)
                have a11_2 : Apart (w8.heap.size) (.row w11.heap.size) := apart_ne (by omega)
                have l11_3 : w10.heap.size < w11.heap.size := held_lt (W := w11) (g := w10.heap.size)
                have a11_3 : Apart (w10.heap.size) (.row w11.heap.size) := apart_ne (by omega)
                go_wp2_with fail
                refine (F5.out _ (bel _ _)).mono ?_
                rintro r12 w12 ⟨rfl, hb⟩
                have p12 := prev_call hb
                clear hb
                have z12 := siz w5 w12
                have o12 : OwnB w5.heap.size (.row w12.heap.size) := own_row z12
                have a12_0 : Apart (w.heap.size) (.row w12.heap.size) := apart_ne (by omega)
                have a12_1 : Apart (w4.heap.size) (.row w12.heap.size) := apart_ne (by omega)
                have l12_2 : w8.heap.size < w12.heap.size := held_lt (W := w12) (g := w8.heap.size)
                have a12_2 : Apart (w8.heap.size) (.row w12.heap.size) := apart_ne (by omega)
                have l12_3 : w10.heap.size < w12.heap.size := held_lt (W := w12) (g := w10.heap.size)
                have a12_3 : Apart (w10.heap.size) (.row w12.heap.size) := apart_ne (by omega)
                have l12_4 : w11.heap.size < w12.heap.size := held_lt (W := w12) (g := w11.heap.size)
                have a12_4 : Apart (w11.heap.size) (.row w12.heap.size) := apart_ne (by omega)
                go_wp2_with fail
                refine (HA1.out _).mono ?_
                rintro r13 w13 ⟨rfl, hb⟩
                have p13 := prev_call hb
                clear hb
                go_wp2_with fail
                refine (HA2.out _).mono ?_
                rintro r14 w14 ⟨rfl, hb⟩
                have p14 := prev_call hb
                clear hb
                go_wp2_with fail
                go_roundw
                case rel => exact ⟨j + 1, by omega, by go_num, ⟨bel _ _⟩⟩
                case measure => simp [intOf]; omega
          | true =>
            have H1 := HX.out (by decide) rfl
            clear HX
            simp only [reduceIte, Bool.false_eq_true, forall_const, true_implies] at H1
            rcases H1 with ⟨e1, e2, e3, e4⟩ | ⟨wx, ax, lx, rx, e1, e2, e3, e4, hal, har, hv1, hv2⟩
            · subst e1 e2 e3 e4
              generalize g1.getD z51 = y1 at F1
              generalize g1.isSome = y2 at F1
              dsimp only [Option.getD, Option.isSome] at F2 F3 F4 F5
              go_wp2_with fail
              refine (HC.out _ (bel _ _)).mono ?_
              rintro r6 w6 ⟨rfl, hb⟩
              have p6 := prev_call hb
              clear hb
              go_wp2_with fail
              refine (HH.out _ (bel _ _)).mono ?_
              rintro r7 w7 ⟨rfl, hb⟩
              have p7 := prev_call hb
              clear hb
              go_wp2_with fail
              refine (F1.out _ (bel _ _)).mono ?_
              rintro r8 w8 ⟨rfl, hb⟩
              have p8 := prev_call hb
              clear hb
              have z8 := siz w5 w8
              have o8 : OwnB w5.heap.size (.row w8.heap.size) := own_row z8
              have a8_0 : Apart (w.heap.size) (.row w8.heap.size) := apart_ne (by omega)
              have a8_1 : Apart (w4.heap.size) (.row w8.heap.size) := apart_ne (by omega)
              go_wp2_with fail
              refine (F2.out _ (bel _ _)).mono ?_
              rintro r9 w9 ⟨rfl, hb⟩
              have p9 := prev_call hb
              clear hb
              go_wp2_with fail
              refine (F3.out _ (bel _ _)).mono ?_
              rintro r10 w10 ⟨rfl, hb⟩
              have p10 := prev_call hb
              clear hb
              have z10 := siz w5 w10
              have o10 : OwnB w5.heap.size (.row w10.heap.size) := own_row z10
              have a10_0 : Apart (w.heap.size) (.row w10.heap.size) := apart_ne (by omega)
              have a10_1 : Apart (w4.heap.size) (.row w10.heap.size) := apart_ne (by omega)
              have l10_2 : w8.heap.size < w10.heap.size := held_lt (W := w10) (g := w8.heap.size)
              have a10_2 : Apart (w8.heap.size) (.row w10.heap.size) := apart_ne (by omega)
              go_wp2_with fail
              refine (F4.out _ (bel _ _)).mono ?_
              rintro r11 w11 ⟨rfl, hb⟩
              have p11 := prev_call hb
              clear hb
              have z11 := siz w5 w11
              have o11 : OwnB w5.heap.size (.row w11.heap.size) := own_row z11
              have a11_0 : Apart (w.heap.size) (.row w11.heap.size) := apart_ne (by omega)
              have a11_1 : Apart (w4.heap.size) (.row w11.heap.size) := apart_ne (by omega)
              have l11_2 : w8.heap.size < w11.heap.size := held_lt (W := w11) (g := w8.heap.size)
              have a11_2 : Apart (w8.heap.size) (.row w11.heap.size) := apart_ne (by omega)
              have l11_3 : w10.heap.size < w11.heap.size := held_lt (W := w11) (g := w10.heap.size)
              have a11_3 : Apart (w10.heap.size) (.row w11.heap.size) := apart_ne (by omega)
              go_wp2_with fail
              refine (F5.out _ (bel _ _)).mono ?_
              rintro r12 w12 ⟨rfl, hb⟩
              have p12 := prev_call hb
              clear hb
              have z12 := siz w5 w12
              have o12 : OwnB w5.heap.size (.row w12.heap.size) := own_row z12
              have a12_0 : Apart (w.heap.size) (.row w12.heap.size) := apart_ne (by omega)
              have a12_1 : Apart (w4.heap.size) (.row w12.heap.size) := apart_ne (by omega)
              have l12_2 : w8.heap.size < w12.heap.size := held_lt (W := w12) (g := w8.heap.size)
              have a12_2 : Apart (w8.heap.size) (.row w12.heap.size) := apart_ne (by omega)
              have l12_3 : w10.heap.size < w12.heap.size := held_lt (W := w12) (g := w10.heap.size)
              have a12_3 : Apart (w10.heap.size) (.row w12.heap.size) := apart_ne (by omega)
              have l12_4 : w11.heap.size < w12.heap.size := held_lt (W := w12) (g := w11.heap.size)
              have a12_4 : Apart (w11.heap.size) (.row w12.heap.size) := apart_ne (by omega)
              go_wp2_with fail
              go_roundw
              case rel => exact ⟨j + 1, by omega, by go_num, ⟨bel _ _⟩⟩
              case measure => simp [intOf]; omega
            · subst e1 e2 e3 e4
              generalize g1.getD z51 = y1 at F1
              generalize g1.isSome = y2 at F1
              dsimp only [Option.getD, Option.isSome] at F2 F3 F4 F5
              have HA1 := Aside0.mk (fun W => HAL.out W lx wx)
              have HA2 := Aside0.mk (fun W => HAL.out W rx wx)
              rw [hal] at HA1
              have hb1 : (ax.f0 != rx.f0) = false := by rw [hv1]; simp
              have hb2 : (lx.f0 != rx.f0) = false := by rw [hv2]; simp
              generalize alikeS rx wx = q at HA2
              clear hal har hv1 hv2
              cases q with
              | false =>
                go_wp2_with fail
                refine (HC.out _ (bel _ _)).mono ?_
                rintro r6 w6 ⟨rfl, hb⟩
                have p6 := prev_call hb
                clear hb
                go_wp2_with fail
                refine (HH.out _ (bel _ _)).mono ?_
                rintro r7 w7 ⟨rfl, hb⟩
                have p7 := prev_call hb
                clear hb
                go_wp2_with fail
                refine (F1.out _ (bel _ _)).mono ?_
                rintro r8 w8 ⟨rfl, hb⟩
                have p8 := prev_call hb
                clear hb
                have z8 := siz w5 w8
                have o8 : OwnB w5.heap.size (.row w8.heap.size) := own_row z8
                have a8_0 : Apart (w.heap.size) (.row w8.heap.size) := apart_ne (by omega)
                have a8_1 : Apart (w4.heap.size) (.row w8.heap.size) := apart_ne (by omega)
                go_wp2_with fail
                refine (F2.out _ (bel _ _)).mono ?_
                rintro r9 w9 ⟨rfl, hb⟩
                have p9 := prev_call hb
                clear hb
                go_wp2_with fail
                refine (F3.out _ (bel _ _)).mono ?_
                rintro r10 w10 ⟨rfl, hb⟩
                have p10 := prev_call hb
                clear hb
                have z10 := siz w5 w10
                have o10 : OwnB w5.heap.size (.row w10.heap.size) := own_row z10
                have a10_0 : Apart (w.heap.size) (.row w10.heap.size) := apart_ne (by omega)
                have a10_1 : Apart (w4.heap.size) (.row w10.heap.size) := apart_ne (by omega)
                have l10_2 : w8.heap.size < w10.heap.size := held_lt (W := w10) (g := w8.heap.size)
                have a10_2 : Apart (w8.heap.size) (.row w10.heap.size) := apart_ne (by omega)
                go_wp2_with fail
                refine (F4.out _ (bel _ _)).mono ?_
                rintro r11 w11 ⟨rfl, hb⟩
                have p11 := prev_call hb
                clear hb
                have z11 := siz w5 w11
                have o11 : OwnB w5.heap.size (.row w11.heap.size) := own_row z11
                have a11_0 : Apart (w.heap.size) (.row w11.heap.size) := apart_ne (by omega)
                have a11_1 : Apart (w4.heap.size) (.row w11.heap.size) := apart_ne (by omega)
                have l11_2 : w8.heap.size < w11.heap.size := held_lt (W := w11) (g := w8.heap.size)
                have a11_2 : Apart (w8.heap.size) (.row w11.heap.size) := apart_ne (by omega)
                have l11_3 : w10.heap.size < w11.heap.size := held_lt (W := w11) (g := w10.heap.size)
                have a11_3 : Apart (w10.heap.size) (.row w11.heap.size) := apart_ne (by omega)
                go_wp2_with fail
                refine (F5.out _ (bel _ _)).mono ?_
                rintro r12 w12 ⟨rfl, hb⟩
                have p12 := prev_call hb
                clear hb
                have z12 := siz w5 w12
                have o12 : OwnB w5.heap.size (.row w12.heap.size) := own_row z12
                have a12_0 : Apart (w.heap.size) (.row w12.heap.size) := apart_ne (by omega)
                have a12_1 : Apart (w4.heap.size) (.row w12.heap.size) := apart_ne (by omega)
                have l12_2 : w8.heap.size < w12.heap.size := held_lt (W := w12) (g := w8.heap.size)
                have a12_2 : Apart (w8.heap.size) (.row w12.heap.size) := apart_ne (by omega)
                have l12_3 : w10.heap.size < w12.heap.size := held_lt (W := w12) (g := w10.heap.size)
                have a12_3 : Apart (w10.heap.size) (.row w12.heap.size) := apart_ne (by omega)
                have l12_4 : w11.heap.size < w12.heap.size := held_lt (W := w12) (g := w11.heap.size)
                have a12_4 : Apart (w11.heap.size) (.row w12.heap.size) := apart_ne (by omega)
                go_wp2_with fail
                refine (HA1.out _).mono ?_
                rintro r13 w13 ⟨rfl, hb⟩
                have p13 := prev_call hb
                clear hb
                go_wp2_with fail
                refine (HA2.out _).mono ?_
                rintro r14 w14 ⟨rfl, hb⟩
                have p14 := prev_call hb
                clear hb
                go_wp2_with fail
                go_roundw
                case rel => exact ⟨j + 1, by omega, by go_num, ⟨bel _ _⟩⟩
                case measure => simp [intOf]; omega
              | true =>
                go_wp2_with fail
                refine (HC.out _ (bel _ _)).mono ?_
                rintro r6 w6 ⟨rfl, hb⟩
                have p6 := prev_call hb
                clear hb
                go_wp2_with fail
                refine (HH.out _ (bel _ _)).mono ?_
                rintro r7 w7 ⟨rfl, hb⟩
                have p7 := prev_call hb
                clear hb
                go_wp2_with fail
                refine (F1.out _ (bel _ _)).mono ?_
                rintro r8 w8 ⟨rfl, hb⟩
                have p8 := prev_call hb
                clear hb
                have z8 := siz w5 w8
                have o8 : OwnB w5.heap.size (.row w8.heap.size) := own_row z8
                have a8_0 : Apart (w.heap.size) (.row w8.heap.size) := apart_ne (by omega)
                have a8_1 : Apart (w4.heap.size) (.row w8.heap.size) := apart_ne (by omega)
                go_wp2_with fail
                refine (F2.out _ (bel _ _)).mono ?_
                rintro r9 w9 ⟨rfl, hb⟩
                have p9 := prev_call hb
                clear hb
                go_wp2_with fail
                refine (F3.out _ (bel _ _)).mono ?_
                rintro r10 w10 ⟨rfl, hb⟩
                have p10 := prev_call hb
                clear hb
                have z10 := siz w5 w10
                have o10 : OwnB w5.heap.size (.row w10.heap.size) := own_row z10
                have a10_0 : Apart (w.heap.size) (.row w10.heap.size) := apart_ne (by omega)
                have a10_1 : Apart (w4.heap.size) (.row w10.heap.size) := apart_ne (by omega)
                have l10_2 : w8.heap.size < w10.heap.size := held_lt (W := w10) (g := w8.heap.size)
                have a10_2 : Apart (w8.heap.size) (.row w10.heap.size) := apart_ne (by omega)
                go_wp2_with fail
                refine (F4.out _ (bel _ _)).mono ?_
                rintro r11 w11 ⟨rfl, hb⟩
                have p11 := prev_call hb
                clear hb
                have z11 := siz w5 w11
                have o11 : OwnB w5.heap.size (.row w11.heap.size) := own_row z11
                have a11_0 : Apart (w.heap.size) (.row w11.heap.size) := apart_ne (by omega)
                have a11_1 : Apart (w4.heap.size) (.row w11.heap.size) := apart_ne (by omega)
                have l11_2 : w8.heap.size < w11.heap.size := held_lt (W := w11) (g := w8.heap.size)
                have a11_2 : Apart (w8.heap.size) (.row w11.heap.size) := apart_ne (by omega)
                have l11_3 : w10.heap.size < w11.heap.size := held_lt (W := w11) (g := w10.heap.size)
                have a11_3 : Apart (w10.heap.size) (.row w11.heap.size) := apart_ne (by omega)
                go_wp2_with fail
                refine (F5.out _ (bel _ _)).mono ?_
                rintro r12 w12 ⟨rfl, hb⟩
                have p12 := prev_call hb
                clear hb
                have z12 := siz w5 w12
                have o12 : OwnB w5.heap.size (.row w12.heap.size) := own_row z12
                have a12_0 : Apart (w.heap.size) (.row w12.heap.size) := apart_ne (by omega)
                have a12_1 : Apart (w4.heap.size) (.row w12.heap.size) := apart_ne (by omega)
                have l12_2 : w8.heap.size < w12.heap.size := held_lt (W := w12) (g := w8.heap.size)
                have a12_2 : Apart (w8.heap.size) (.row w12.heap.size) := apart_ne (by omega)
                have l12_3 : w10.heap.size < w12.heap.size := held_lt (W := w12) (g := w10.heap.size)
                have a12_3 : Apart (w10.heap.size) (.row w12.heap.size) := apart_ne (by omega)
                have l12_4 : w11.heap.size < w12.heap.size := held_lt (W := w12) (g := w11.heap.size)
                have a12_4 : Apart (w11.heap.size) (.row w12.heap.size) := apart_ne (by omega)
                go_wp2_with fail
                refine (HA1.out _).mono ?_
                rintro r13 w13 ⟨rfl, hb⟩
                have p13 := prev_call hb
                clear hb
                go_wp2_with fail
                refine (HA2.out _).mono ?_
                rintro r14 w14 ⟨rfl, hb⟩
                have p14 := prev_call hb
                clear hb
                go_wp2_with fail
                go_roundw
                case rel => exact ⟨j + 1, by omega, by go_num, ⟨bel _ _⟩⟩
                case measure => simp [intOf]; omega
      | true =>
        cases th with
        | false =>
            have H1 := HX.out (by decide) rfl
            clear HX
            simp only [reduceIte, Bool.false_eq_true, forall_const, true_implies] at H1
            rcases H1 with ⟨e1, e2, e3, e4⟩ | ⟨wx, ax, lx, rx, e1, e2, e3, e4, hal, har, hv1, hv2⟩
            · subst e1 e2 e3 e4
              clear F2
              dsimp only [Option.getD, Option.isSome] at F1 F3 F4 F5
              go_wp2_with fail
              refine (HC.out _ (bel _ _)).mono ?_
              rintro r6 w6 ⟨rfl, hb⟩
              have p6 := prev_call hb
              clear hb
              go_wp2_with fail
              refine (HH.out _ (bel _ _)).mono ?_
              rintro r7 w7 ⟨rfl, hb⟩
              have p7 := prev_call hb
              clear hb
              go_wp2_with fail
              refine (F1.out _ (bel _ _)).mono ?_
              rintro r8 w8 ⟨rfl, hb⟩
              have p8 := prev_call hb
              clear hb
              have z8 := siz w5 w8
              have o8 : OwnB w5.heap.size (.row w8.heap.size) := own_row z8
              have a8_0 : Apart (w.heap.size) (.row w8.heap.size) := apart_ne (by omega)
              have a8_1 : Apart (w4.heap.size) (.row w8.heap.size) := apart_ne (by omega)
              go_wp2_with fail
              refine (F3.out _ (bel _ _)).mono ?_
              rintro r10 w10 ⟨rfl, hb⟩
              have p10 := prev_call hb
              clear hb
              have z10 := siz w5 w10
              have o10 : OwnB w5.heap.size (.row w10.heap.size) := own_row z10
              have a10_0 : Apart (w.heap.size) (.row w10.heap.size) := apart_ne (by omega)
              have a10_1 : Apart (w4.heap.size) (.row w10.heap.size) := apart_ne (by omega)
              have l10_2 : w8.heap.size < w10.heap.size := held_lt (W := w10) (g := w8.heap.size)
              have a10_2 : Apart (w8.heap.size) (.row w10.heap.size) := apart_ne (by omega)
              go_wp2_with fail
              refine (F4.out _ (bel _ _)).mono ?_
              rintro r11 w11 ⟨rfl, hb⟩
              have p11 := prev_call hb
              clear hb
              have z11 := siz w5 w11
              have o11 : OwnB w5.heap.size (.row w11.heap.size) := own_row z11
              have a11_0 : Apart (w.heap.size) (.row w11.heap.size) := apart_ne (by omega)
              have a11_1 : Apart (w4.heap.size) (.row w11.heap.size) := apart_ne (by omega)
              have l11_2 : w8.heap.size < w11.heap.size := held_lt (W := w11) (g := w8.heap.size)
              have a11_2 : Apart (w8.heap.size) (.row w11.heap.size) := apart_ne (by omega)
              have l11_3 : w10.heap.size < w11.heap.size := held_lt (W := w11) (g := w10.heap.size)
              have a11_3 : Apart (w10.heap.size) (.row w11.heap.size) := apart_ne (by omega)
              go_wp2_with fail
              refine (F5.out _ (bel _ _)).mono ?_
              rintro r12 w12 ⟨rfl, hb⟩
              have p12 := prev_call hb
              clear hb
              have z12 := siz w5 w12
              have o12 : OwnB w5.heap.size (.row w12.heap.size) := own_row z12
              have a12_0 : Apart (w.heap.size) (.row w12.heap.size) := apart_ne (by omega)
              have a12_1 : Apart (w4.heap.size) (.row w12.heap.size) := apart_ne (by omega)
              have l12_2 : w8.heap.size < w12.heap.size := held_lt (W := w12) (g := w8.heap.size)
              have a12_2 : Apart (w8.heap.size) (.row w12.heap.size) := apart_ne (by omega)
              have l12_3 : w10.heap.size < w12.heap.size := held_lt (W := w12) (g := w10.heap.size)
              have a12_3 : Apart (w10.heap.size) (.row w12.heap.size) := apart_ne (by omega)
              have l12_4 : w11.heap.size < w12.heap.size := held_lt (W := w12) (g := w11.heap.size)
              have a12_4 : Apart (w11.heap.size) (.row w12.heap.size) := apart_ne (by omega)
              go_wp2_with fail
              go_roundw
              case rel => exact ⟨j + 1, by omega, by go_num, ⟨bel _ _⟩⟩
              case measure => simp [intOf]; omega
            · subst e1 e2 e3 e4
              clear F2
              dsimp only [Option.getD, Option.isSome] at F1 F3 F4 F5
              have HA1 := Aside0.mk (fun W => HAL.out W lx wx)
              have HA2 := Aside0.mk (fun W => HAL.out W rx wx)
              rw [hal] at HA1
              have hb1 : (ax.f0 != rx.f0) = false := by rw [hv1]; simp
              have hb2 : (lx.f0 != rx.f0) = false := by rw [hv2]; simp
              rw [har] at HA2
              clear hal har hv1 hv2
              go_wp2_with fail
              refine (HC.out _ (bel _ _)).mono ?_
              rintro r6 w6 ⟨rfl, hb⟩
              have p6 := prev_call hb
              clear hb
              go_wp2_with fail
              refine (HH.out _ (bel _ _)).mono ?_
              rintro r7 w7 ⟨rfl, hb⟩
              have p7 := prev_call hb
              clear hb
              go_wp2_with fail
              refine (F1.out _ (bel _ _)).mono ?_
              rintro r8 w8 ⟨rfl, hb⟩
              have p8 := prev_call hb
              clear hb
              have z8 := siz w5 w8
              have o8 : OwnB w5.heap.size (.row w8.heap.size) := own_row z8
              have a8_0 : Apart (w.heap.size) (.row w8.heap.size) := apart_ne (by omega)
              have a8_1 : Apart (w4.heap.size) (.row w8.heap.size) := apart_ne (by omega)
              go_wp2_with fail
              refine (F3.out _ (bel _ _)).mono ?_
              rintro r10 w10 ⟨rfl, hb⟩
              have p10 := prev_call hb
              clear hb
              have z10 := siz w5 w10
              have o10 : OwnB w5.heap.size (.row w10.heap.size) := own_row z10
              have a10_0 : Apart (w.heap.size) (.row w10.heap.size) := apart_ne (by omega)
              have a10_1 : Apart (w4.heap.size) (.row w10.heap.size) := apart_ne (by omega)
              have l10_2 : w8.heap.size < w10.heap.size := held_lt (W := w10) (g := w8.heap.size)
              have a10_2 : Apart (w8.heap.size) (.row w10.heap.size) := apart_ne (by omega)
              go_wp2_with fail
              refine (F4.out _ (bel _ _)).mono ?_
              rintro r11 w11 ⟨rfl, hb⟩
              have p11 := prev_call hb
              clear hb
              have z11 := siz w5 w11
              have o11 : OwnB w5.heap.size (.row w11.heap.size) := own_row z11
              have a11_0 : Apart (w.heap.size) (.row w11.heap.size) := apart_ne (by omega)
              have a11_1 : Apart (w4.heap.size) (.row w11.heap.size) := apart_ne (by omega)
              have l11_2 : w8.heap.size < w11.heap.size := held_lt (W := w11) (g := w8.heap.size)
              have a11_2 : Apart (w8.heap.size) (.row w11.heap.size) := apart_ne (by omega)
              have l11_3 : w10.heap.size < w11.heap.size := held_lt (W := w11) (g := w10.heap.size)
              have a11_3 : Apart (w10.heap.size) (.row w11.heap.size) := apart_ne (by omega)
              go_wp2_with fail
              refine (F5.out _ (bel _ _)).mono ?_
              rintro r12 w12 ⟨rfl, hb⟩
              have p12 := prev_call hb
              clear hb
              have z12 := siz w5 w12
              have o12 : OwnB w5.heap.size (.row w12.heap.size) := own_row z12
              have a12_0 : Apart (w.heap.size) (.row w12.heap.size) := apart_ne (by omega)
              have a12_1 : Apart (w4.heap.size) (.row w12.heap.size) := apart_ne (by omega)
              have l12_2 : w8.heap.size < w12.heap.size := held_lt (W := w12) (g := w8.heap.size)
              have a12_2 : Apart (w8.heap.size) (.row w12.heap.size) := apart_ne (by omega)
              have l12_3 : w10.heap.size < w12.heap.size := held_lt (W := w12) (g := w10.heap.size)
              have a12_3 : Apart (w10.heap.size) (.row w12.heap.size) := apart_ne (by omega)
              have l12_4 : w11.heap.size < w12.heap.size := held_lt (W := w12) (g := w11.heap.size)
              have a12_4 : Apart (w11.heap.size) (.row w12.heap.size) := apart_ne (by omega)
              go_wp2_with fail
              refine (HA1.out _).mono ?_
              rintro r13 w13 ⟨rfl, hb⟩
              have p13 := prev_call hb
              clear hb
              go_wp2_with fail
              refine (HA2.out _).mono ?_
              rintro r14 w14 ⟨rfl, hb⟩
              have p14 := prev_call hb
              clear hb
              go_wp2_with fail
              go_roundw
              case rel => exact ⟨j + 1, by omega, by go_num, ⟨bel _ _⟩⟩
              case measure => simp [intOf]; omega
          | true =>
            go_wp2_with fail
            refine (HC.out _ (bel _ _)).mono ?_
            rintro r6 w6 ⟨rfl, hb⟩
            have p6 := prev_call hb
            clear hb
            go_wp2_with fail
            refine (HH.out _ (bel _ _)).mono ?_
            rintro r7 w7 ⟨rfl, hb⟩
            have p7 := prev_call hb
            clear hb
            go_wp2_with fail
            go_roundw
            case rel => exact ⟨j + 1, by omega, by go_num, ⟨bel _ _⟩⟩
            case measure => simp [intOf]; omega
    · go_wp2_with fail
      refine (HW.out _).mono ?_
      rintro r6 w6 ⟨rfl, hb⟩
      have p6 := prev_call hb
      clear hb
      go_wp2_with fail
      go_ret
      exact ⟨rfl, bel _ _⟩
end Go.Proofs.YtjllbkeobibnkaaDoor.Q

namespace Go.Proofs.YtjllbkeobibnkaaDoor.mergeOneSide
open Go.ChangeShapes Go.WideShapes Go.ChangeAt Go.RowKit Go.Proofs.YtjllbkeobibnkaaDoorK Go.Proofs.YtjllbkeobibnkaaDoorW.PrintWords Go.Proofs.YtjllbkeobibnkaaDoor.Q
open Go.ChangeMaps (open_string shut_string)
set_option linter.unusedVariables false
theorem own : ownKnob Tryd.prog.godebug = none := by kernel_rfl
theorem laidOut : laidOutB Tryd.prog = true := by kernel_rfl
set_option maxRecDepth 100000 in
theorem lifted (os : Os) (started : os.Started) (H : Type) (enc : TypeId × Value → H) :
    ReturnsInHanded {} Tryd.checked os 7 .any (fun w args => (Rows.mergeOneSideSpec.pre enc Tryd.prog Tryd.f7 Rows.mergeOneSideRow.domain false w args ∧ laidMetH Tryd.prog Rows.mergeOneSideRow.laid w) ∧ sizedMet enc Tryd.prog Tryd.f7 (OpenSpec.ofChange Rows.mergeOneSideSpec) false w args) (Rows.mergeOneSideSpec.post enc Tryd.prog Tryd.f7 false true false false) := by
  refine returnsInHanded_of_change_and (C := Tryd.checked) (X := fun w _ => laidMetH Tryd.prog Rows.mergeOneSideRow.laid w) (fun _ _ _ hh h => h.of_heap hh) own started (by kernel_rfl) Tryd.func7
    (ChangeSpec.witness_shaped (enc := enc) (C := Tryd.checked) (os := os) (X := fun w _ => laidMetH Tryd.prog Rows.mergeOneSideRow.laid w) false (World.laidAll Tryd.prog os Rows.mergeOneSideRow.laid) #[.agg #[.slice none 0 0, .slice none 0 0, .slice none 0 0], .slice none 0 0] 8 (World.laidAll_os _ _ _)
      (World.shaped_of_ZipB (by kernel_rfl) (by kernel_rfl)) (by kernel_rfl) (by kernel_rfl) (by kernel_rfl)
      (by rw [MakeChecks.laidMetH_plain _ _ _ (by kernel_rfl)]; exact laidMet_laidAll _ (by kernel_rfl) (by kernel_rfl))) ?_
  intro W base args ds gs before hval0 hW hcnd hsz0 _ _
  have hsz : (DataW.weightsEach Tryd.prog (Tryd.f7.params.toList ++ Rows.mergeOneSideSpec.plain.varTypes Tryd.prog) (ds ++ gs)).all (· ≤ reachBytes) = true := hsz0
  have hval : ∀ (j : Nat) t v, Tryd.f7.params[j]? = some t → args[j]? = some v → Value.okWide Tryd.prog W .any base t v := hval0
  have hW' := hW
  obtain ⟨p, q, hA0, hV, rfl, hfz, hnd⟩ := hW
  have hA : DataW.TrodAll enc Tryd.prog W 0 (fun _ => true) true Tryd.f7.params.toList args.toList ds p := hA0
  rw [Tryd.params7] at hA hval hsz
  obtain ⟨v0, vs0, d0, ds0, p0, q0, hargs, rfl, rfl, h0, r0⟩ := trodAll_cons hA
  obtain ⟨v1, vs1, d1, ds1, p1, q1, rfl, rfl, rfl, h1, r1⟩ := trodAll_cons r0
  obtain ⟨rfl, rfl, rfl⟩ := trodAll_nil r1
  obtain rfl : args = #[v0, v1] := by cases args; simp_all
  obtain ⟨rfl, rfl⟩ := trodVars_none hV
  obtain ⟨cs0, rfl, hz0⟩ := okWide_struct Tryd.underlying24 (hval 0 24 v0 rfl rfl)
  have k0 := h0
  have lt0 : ∀ x ∈ p0, x.block < W.heap.size := by obtain ⟨m, hm⟩ := k0; exact DataW.trod_lt m _ _ _ hm
  obtain ⟨x0, hK0, _⟩ : ∃ x, k24.K W x cs0.toList ∧ True := by
    obtain ⟨fuel, hf⟩ := h0
    exact opens24 _ _ _ _ _ _ _ _ _ hf
  have hS0 := k24_side hK0
  obtain ⟨a1, len1, cap1, rfl⟩ := okWide_slice Tryd.underlying41 (hval 1 41 v1 rfl rfl)
  have k1 := h1
  have lt1 : ∀ x ∈ p1, x.block < W.heap.size := by obtain ⟨m, hm⟩ := k1; exact DataW.trod_lt m _ _ _ hm
  obtain ⟨l1, ⟨A1, c1, he1, hl1, hC1⟩, _, _⟩ : ∃ l, (Kd.slice 9 Kd.string).K W l [.slice a1 len1 cap1] ∧ l.length ≤ 9223372036854775807 ∧ ∀ a ∈ l, a.size ≤ 9223372036854775807 := by
    obtain ⟨fuel, hf⟩ := h1
    exact (opens_slice (e := 9) Tryd.underlying41 (by kernel_rfl) (opens_string Tryd.underlying9)) _ _ _ _ _ _ _ _ _ hf
  simp only [List.cons.injEq, Value.slice.injEq, and_true] at he1
  obtain ⟨rfl, rfl, rfl⟩ := he1
  clear hA0 hval0 hsz0 hsz
  refine (one_any W x0 _ _ _ l1 hS0 hC1 hl1).mono fun e W' he0 => ?_
  obtain ⟨rfl, bel0⟩ := he0
  have bel : Below W.heap.size W W' := bel0
  exact ⟨_, rfl, _, _, _, [], _, [], hW', trodAll_mk1 (shut_bool Tryd.underlying4 _), (trodAll_cons_mk (Below.trod laidOut (by kernel_rfl) (of_decide_eq_true (by kernel_rfl)) k0 bel lt0) (trodAll_cons_mk (Below.trod laidOut (by kernel_rfl) (of_decide_eq_true (by kernel_rfl)) k1 bel lt1) trodAll_mk0)), rfl, bel.frame _, fun h => by cases h⟩
theorem over : Rows.mergeOneSideRow.holds Tryd.pinned (OpenSpec.ofChange Rows.mergeOneSideSpec) :=
  OpenClaim.holds_of_wide 7 Tryd.f7 rfl rfl rfl rfl rfl rfl rfl ⟨rfl, rfl, rfl, rfl, rfl⟩ rfl rfl rfl rfl rfl (by kernel_rfl) Tryd.func7 (by kernel_rfl)
    (of_decide_eq_true (by kernel_rfl)) (by unfold Func.isWrapper; first | (rw [if_pos (by decide +kernel)]; kernel_rfl) | (rw [if_neg (by decide +kernel)]; exact ⟨rfl, rfl⟩))
    (fun os started H enc _ => lifted os started H enc)
theorem card : Rows.MergeOneSideCardSaid :=
  Claim7.holds_tied_plain_at .later [] [.data, .pinned] true (true, "78899013b187db133d03f13ef116ebf99bfe5271257e851bcb492081257ec2bb") false over (fun _ h => by cases h) (by kernel_rfl) (fun _ h => by cases h) mergeOneSide_row_tie rfl ⟨rfl, rfl⟩ (by kernel_rfl) rfl
    (fun f fn hf hfn => by
      obtain rfl : f = 7 := Option.some.inj ((show Tryd.prog.funcNamed "aquifer/aquiferlaw28.MergeOneSide" = some 7 by kernel_rfl).symm.trans hf) |>.symm
      obtain rfl : fn = Tryd.f7 := (Option.some.inj (Tryd.func7.symm.trans hfn)).symm
      exact ⟨by kernel_rfl, fun j t ht => by
        rw [Tryd.params7] at ht
        have hm : t ∈ [24, 41] := by simpa using Array.mem_of_getElem? ht
        have hall : ([24, 41].all fun u => !Tryd.prog.wantsStandIn u) = true := by kernel_rfl
        exact (show Tryd.prog.wantsStandIn t = false by simpa using List.all_eq_true.1 hall t hm)⟩)
    (by kernel_rfl)
theorem proved : Rows.MergeOneSideCardSaid := card
#print axioms proved
end Go.Proofs.YtjllbkeobibnkaaDoor.mergeOneSide
namespace Go.Proofs.YtjllbkeobibnkaaDoor
/-- The card, under a short name, for the claim. -/
theorem mergeOneSide_holds : Rows.MergeOneSideCardSaid := mergeOneSide.proved
end Go.Proofs.YtjllbkeobibnkaaDoor
