/- Parts of the proof: HAll, HRWith, HFree, HRCopy, HPlan1, HDec, HDec2, PPoint, Q22, Q25, HPCopy, HPlan0, PPlan, PBelM. -/
import Derived.Test.YtjllbkeobibnkaaDoorZO5
import Derived.Test.YtjllbkeobibnkaaDoorZO6
import Derived.Test.YtjllbkeobibnkaaDoorZO1
import Derived.Test.YtjllbkeobibnkaaDoorZO4
import Derived.StillTailTactics
import Derived.BigQuiet
import Derived.Shelf.Abstract
import Derived.Test.YtjllbkeobibnkaaDoorZO3
import Derived.Test.YtjllbkeobibnkaaDoorWWords
import Derived.Test.YtjllbkeobibnkaaDoorWMore
import Derived.Test.YtjllbkeobibnkaaDoorZO2
import Derived.Deep.RegionHeld3
set_option linter.unusedVariables false
set_option linter.unusedSimpArgs false
namespace Go.Proofs.YtjllbkeobibnkaaDoor.Q
open Go Go.Proofs Go.Shelf Go.RowKit Go.Lib Go.Sort Go.Proofs.YtjllbkeobibnkaaDoorP Go.Proofs.YtjllbkeobibnkaaDoorK Go.Proofs.YtjllbkeobibnkaaDoorW.PrintWords Go.Proofs.YtjllbkeobibnkaaDoorW.PrintLast Go.Proofs.YtjllbkeobibnkaaDoorW.PrintMore
set_option linter.unusedSimpArgs false
set_option linter.unusedVariables false
theorem results_row_tmp2 {P : Program} {fn : Func} {p q r : Tmp} {ty : TypeId} (h : fn.results = #[.cell p ty, .tmp q, .tmp r]) (tmps : Array Value) (w : World) {g : Nat} {t : TypeId} {cs : Array Value} {d : TypeDesc} (v u : Value)
    (hg : w.heap[g]? = some (.cells cs t (0, 0))) (hp : tmps.getD p undef = .pointer (some ⟨g, 0, none⟩)) (hq : tmps.getD q undef = v) (hr : tmps.getD r undef = u)
    (hu : P.underlying ty = some d) (hd : (match d with | .struct _ | .array _ _ => true | _ => false) = true) (hi : (P.info? ty).map (·.size) = some cs.size) :
    (results fn tmps).run P w = .ok (.tuple #[.agg cs, v, u]) w := by
  have hp' : tmps[p]?.getD undef = .pointer (some ⟨g, 0, none⟩) := by simpa using hp
  have hq' : tmps[q]?.getD undef = v := by simpa using hq
  have hr' : tmps[r]?.getD undef = u := by simpa using hr
  simp [results, h, hp', hq', hr', asAddr, run_loadVar_row w g t ty cs (0, 0) d hg hu hd hi]
theorem DoOut.sideR {b b' : Nat} {w' : World} {s s' : S24} {v v' : Array Value} (h : DoOut b' w' s v s' v') (hb : b ≤ b') (hs : SideR w' b s v) : SideR w' b s' v' := by
  obtain ⟨x0, x1, x2, y0, y1, y2, rfl, rfl, h0, h1, h2⟩ := h.out
  obtain ⟨z0, z1, z2, e, k0, k1, k2⟩ := hs.out
  injection e with e
  injection e with e0 e
  injection e with e1 e
  injection e with e2 _
  subst e0 e1 e2
  have hn : ∀ {x y : Value} {l m : List S58}, NewRow b' w' x l y m → k58.R 58 w' b (fun _ => True) x l → k58.R 58 w' b (fun _ => True) y m := fun hr hx => by
    rcases hr with ⟨rfl, rfl⟩ | hr
    · exact hx
    · exact Kd.R_lower hr hb
  exact ⟨⟨y0, y1, y2, rfl, hn h0 k0, hn h1 k1, hn h2 k2⟩⟩
/-- Three cells of a box, one by one: a step of its own. -/
instance (priority := high) prev3 (W : World) (g : Nat) (x y z : Value) : Prev (((W.setCell ⟨g, 0, none⟩ x).setCell ⟨g, 1, none⟩ y).setCell ⟨g, 2, none⟩ z) W (.row g) :=
  ⟨by
    have h1 := (inferInstance : Prev (W.setCell ⟨g, 0, none⟩ x) W (.row g)).out
    have h2 := (inferInstance : Prev ((W.setCell ⟨g, 0, none⟩ x).setCell ⟨g, 1, none⟩ y) (W.setCell ⟨g, 0, none⟩ x) (.row g)).out
    have h3 : Kept0 ((W.setCell ⟨g, 0, none⟩ x).setCell ⟨g, 1, none⟩ y) (((W.setCell ⟨g, 0, none⟩ x).setCell ⟨g, 1, none⟩ y).setCell ⟨g, 2, none⟩ z) (.row g) := (inferInstance : Prev (((W.setCell ⟨g, 0, none⟩ x).setCell ⟨g, 1, none⟩ y).setCell ⟨g, 2, none⟩ z) ((W.setCell ⟨g, 0, none⟩ x).setCell ⟨g, 1, none⟩ y) (.row g)).out
    exact ⟨(h3.os.trans h2.os).trans h1.os, (h3.tape.trans h2.tape).trans h1.tape, (h3.output.trans h2.output).trans h1.output, Nat.le_trans h1.size (Nat.le_trans h2.size h3.size), fun k hk ho => (h3.block k (Nat.lt_of_lt_of_le hk (Nat.le_trans h1.size h2.size)) ho).trans ((h2.block k (Nat.lt_of_lt_of_le hk h1.size) ho).trans (h1.block k hk ho))⟩⟩
instance (priority := high) holds3 (W : World) (g : Nat) (x y z a b c : Value) (t : TypeId) [h : Go.Proofs.YtjllbkeobibnkaaDoorK.Holds W g (.cells #[a, b, c] t (0, 0))] : Go.Proofs.YtjllbkeobibnkaaDoorK.Holds (((W.setCell ⟨g, 0, none⟩ x).setCell ⟨g, 1, none⟩ y).setCell ⟨g, 2, none⟩ z) g (.cells #[x, y, z] t (0, 0)) :=
  ⟨blk_set (blk_set (blk_set h.out 0 x) 1 y) 2 z⟩
theorem verS_mn (top : Int) (i : Nat) : verS top i = mn (top + 1 + (i : Int)) 1099511627776 := rfl
def mxI (a b : Int) : Int := if a < b then b else a
theorem max2_mxI (k k' : IntKind) (x y : Int) : Builtin.max2 (.int k x) (.int k' y) = pure (.int k (mxI x y)) := by
  rw [max2_int]
  unfold mxI
  rfl
theorem mxS_mxI (a : Int) (k : S58) : mxS a k = mxI a k.f1.f0 := rfl
attribute [local go_sem] A51_size A51_0 A51_1 A51_g0 A51_g1 A58_size A58_0 A58_1 A58_2 A58_g0 A58_g1 A58_g2 cell_held frozen_held
attribute [local go_sem] zero51 zero58 zero65 A33 max2_mxI max_two min2_mnF min_two
attribute [local go_sem ↓ high] lvx_of
attribute [local go_sem] lv_sc lv24 lv33
attribute [local go_sem ↓ high] lv51 lv51s lv58 lv58a lv65 lv65a lv65l lv65r sc51 sc58 sc65 sc65a sc65l sc65r sc58a
set_option maxRecDepth 100000 in
set_option maxHeartbeats 4000000 in
theorem all_any (w : World) (s : S24) (v : Array Value) (b : Nat) (hs : SideR w b s v) (hb : b ≤ w.heap.size) (Sa : Option Addr) (sc : Nat) (l : List S33) (hl : k33.C w Sa l.length l) (hr : Room (2 * l.length) s) (hz : ∀ x ∈ l, x.f2.size ≤ 32000 ∧ x.f3.size ≤ 32000) (htop : 1 ≤ topS s ∧ topS s ≤ 1099511627776) :
    Calls Tryd.prog 19 #[.agg v, .slice Sa l.length sc] w fun e w' => ∃ v', e = .returned (.tuple #[.agg v', .bool (allS (topS s) 0 l s false).2.1, .bool (allS (topS s) 0 l s false).2.2]) ∧ SideR w' b (allS (topS s) 0 l s false).1 v' ∧ Below w.heap.size w w' := by
  obtain ⟨A, c, B, d, C, e, hv, l1, l2, l3, h1, h2, h3⟩ := hs.side.out
  subst hv
  obtain ⟨TOP, hTOP⟩ : ∃ T, topS s = T := ⟨_, rfl⟩
  rw [hTOP] at htop ⊢
  obtain ⟨R, hR⟩ : ∃ R, allS TOP 0 l s false = R := ⟨_, rfl⟩
  rw [hR]
  have HR0 := Aside0.mk hR
  have hT : Aside0 (([s.f0, s.f1, s.f2] : List (List S58)).foldl (fun a l => l.foldl mxS a) 1 = TOP) := ⟨hTOP⟩
  have HL := Aside0.mk (show (∀ j (h : j < 3), ∃ X xc, ([Value.slice A s.f0.length c, Value.slice B s.f1.length d, Value.slice C s.f2.length e] : List Value)[j]'h = .slice X (([s.f0, s.f1, s.f2] : List (List S58))[j]'h).length xc ∧ k58.C w X (([s.f0, s.f1, s.f2] : List (List S58))[j]'h).length (([s.f0, s.f1, s.f2] : List (List S58))[j]'h)) from fun j h => by
    rcases (show j = 0 ∨ j = 1 ∨ j = 2 by omega) with rfl | rfl | rfl
    · exact ⟨A, c, rfl, h1⟩
    · exact ⟨B, d, rfl, h2⟩
    · exact ⟨C, e, rfl, h3⟩)
  have HS := Aside0.mk hs
  have HLL := Aside0.mk hl
  have HRM := Aside0.mk hr
  have HZ := Aside0.mk hz
  clear hs hl hr hz h1 h2 h3 hTOP hR l1 l2 l3
  go_enter Tryd.func19, Tryd.ntmps19
  go_wp2_with fail
  obtain ⟨w0, hw0⟩ : ∃ W, ((w.alloc (.cells #[.slice A s.f0.length c, .slice B s.f1.length d, .slice C s.f2.length e] 24)).alloc (.cells #[.slice none 0 0, .slice none 0 0, .slice none 0 0] 24)).alloc (.cells #[.slice A s.f0.length c, .slice B s.f1.length d, .slice C s.f2.length e] 22) = W := ⟨_, rfl⟩
  have i0 : Go.Proofs.YtjllbkeobibnkaaDoorK.Holds w0 w.heap.size (.cells #[.slice A s.f0.length c, .slice B s.f1.length d, .slice C s.f2.length e] 24 (0, 0)) := by rw [← hw0]; infer_instance
  have i1 : Go.Proofs.YtjllbkeobibnkaaDoorK.Holds w0 (w.heap.size + 1) (.cells #[.slice none 0 0, .slice none 0 0, .slice none 0 0] 24 (0, 0)) := by rw [← hw0]; infer_instance
  have i2 : Go.Proofs.YtjllbkeobibnkaaDoorK.Holds w0 (w.heap.size + 2) (.cells #[.slice A s.f0.length c, .slice B s.f1.length d, .slice C s.f2.length e] 22 (0, 0)) := by rw [← hw0]; infer_instance
  have p0 : Prev w0 w .none := by rw [← hw0]; exact prev_call (bel _ _)
  rw [hw0]
  clear hw0
  go_loopw [7, 23] (fun a i wr => ∃ (j : Nat) (z : Int), j ≤ 3 ∧ i = .int .i64 (j : Int) ∧ a = .int .i64 z ∧ Aside0 ((([s.f0, s.f1, s.f2] : List (List S58)).drop j).foldl (fun a l => l.foldl mxS a) z = TOP) ∧ Aside0 (Below w0.heap.size w0 wr))  (fun _ i _ => 3 - (intOf i).toNat)
  case atStart => exact ⟨0, 1, by omega, rfl, rfl, hT, ⟨Below.refl _ _⟩⟩
  case round =>
    obtain ⟨j, z, hj, rfl, rfl, HI, HB⟩ := hrel
    have pr := prev_call HB.out
    by_cases hlt : j < 3
    · obtain ⟨X, xc, hm, hX⟩ := HL.out j hlt
      have hI := HI.out
      rw [List.drop_eq_getElem_cons (show j < ([s.f0, s.f1, s.f2] : List (List S58)).length from hlt), List.foldl_cons] at hI
      generalize ([s.f0, s.f1, s.f2] : List (List S58))[j]'hlt = m at hm hX hI
      have HX := Aside0.mk hX
      have HI2 := Aside0.mk hI
      have hml := hX.2.1
      have hd3 : decide ((j : Int) < 3) = true := decide_eq_true (by omega)
      clear hX hI HI
      go_wp2_with fail
      go_loopw [7, 11, 29] (fun a q i wr => ∃ (n : Nat) (y : Int), n ≤ m.length ∧ i = .int .i64 (n : Int) ∧ a = .int .i64 y ∧ Aside0 ((m.drop n).foldl mxS y = m.foldl mxS z) ∧ Aside0 (Below w0.heap.size w0 wr)) (fun _ _ i _ => m.length - (intOf i).toNat)
      case atStart => exact ⟨0, z, Nat.zero_le _, rfl, rfl, ⟨rfl⟩, HB⟩
      case round =>
        obtain ⟨n, y, hn, rfl, rfl, HY, HI⟩ := hrel
        have pi := prev_call HI.out
        by_cases hln : n < m.length
        · obtain ⟨ad, e0, x0⟩ := C58_at (Kd.C_below HX.out (bel w wr)) n hln
          subst e0
          have hY := HY.out
          rw [List.drop_eq_getElem_cons hln, List.foldl_cons, mxS_mxI] at hY
          generalize m[n] = x at x0 hY
          have X0 := Aside0.mk x0
          have HYY := Aside0.mk hY
          clear x0 hY HY
          have oo : OwnB w0.heap.size (.row wr.heap.size) := own_row HI.out.size
          go_wp2_with (refine seg_load rfl 58 (.tmp 31) rfl X0.out (A58 x) rfl rfl Tryd.underlying58 rfl (by rw [L58_len]; exact info58s) ?_)
          go_roundw
          case rel => exact ⟨n + 1, mxI y x.f1.f0, hln, by go_num, rfl, HYY, ⟨bel _ _⟩⟩
          case measure => simp [intOf]; omega
        · have hY := HY.out
          rw [List.drop_of_length_le (by omega), List.foldl_nil] at hY
          have HYY := Aside0.mk hY
          clear hY HY
          go_wp2_with fail
          go_roundw
          case rel => exact ⟨j + 1, y, by omega, by go_num, rfl, ⟨by rw [HYY.out]; exact HI2.out⟩, HI⟩
          case measure => simp [intOf]; omega
    · have hj3 : j = 3 := by omega
      subst hj3
      have hI := HI.out
      have hz : z = TOP := hI
      subst hz
      clear hI HI hlt hj
      have hll : l.length ≤ 1000 := by have := HRM.out.a.1; omega
      rw [show ((3 : Nat) : Int) = (3 : Int) from rfl]
      go_wp2_with fail
      have w1s : w.heap.size + 2 < wr.heap.size := held_lt (W := wr) (g := w.heap.size + 2)
      rename World => w1
      go_loopw [5, 42] (fun u i wr => ∃ (j : Nat) (t : S24) (st : Bool) (Aa Bb Cc : Option Addr) (ac bc cc : Nat), j ≤ l.length ∧ i = .int .i64 (j : Int) ∧ u = .bool st ∧ Aside0 (allS z j (l.drop j) t st = R) ∧ Aside0 (Room (2 * (l.length - j)) t) ∧ Aside0 (SideR wr b t #[.slice Aa t.f0.length ac, .slice Bb t.f1.length bc, .slice Cc t.f2.length cc]) ∧ Aside0 (Go.Proofs.YtjllbkeobibnkaaDoorK.Holds wr w.heap.size (.cells #[.slice Aa t.f0.length ac, .slice Bb t.f1.length bc, .slice Cc t.f2.length cc] 24 (0, 0))) ∧ Aside0 (Go.Proofs.YtjllbkeobibnkaaDoorK.Holds wr (w.heap.size + 1) (.cells #[.slice none 0 0, .slice none 0 0, .slice none 0 0] 24 (0, 0))) ∧ Aside0 (Below w.heap.size w wr)) (fun _ i _ => l.length - (intOf i).toNat)
      case atStart => exact ⟨0, s, false, A, B, C, c, d, e, Nat.zero_le _, rfl, rfl, HR0, HRM, ⟨SideR.x HS.out⟩, ⟨inferInstance⟩, ⟨inferInstance⟩, ⟨bel _ _⟩⟩
      case round =>
        obtain ⟨j, t, st, Aa, Bb, Cc, ac, bc, cc, hj, rfl, rfl, HI, HRM, HS, HA, HO, HB⟩ := hrel
        have bw : Bel w.heap.size w wr := ⟨fun _ => HB.out⟩
        have ha := HA.out
        have ho := HO.out
        clear hT HR0
        by_cases hlt : j < l.length
        · obtain ⟨ad, e0, x0⟩ := C33_at (Kd.C_below HLL.out HB.out) j hlt
          subst e0
          have hI := HI.out
          rw [List.drop_eq_getElem_cons hlt] at hI
          have hzz := HZ.out _ (List.getElem_mem hlt)
          generalize l[j] = x at x0 hI hzz
          obtain ⟨k, u, p, q⟩ := x
          have HII := Aside0.mk hI
          have HZZ := Aside0.mk hzz
          obtain ⟨c0, c1, c2, c3⟩ := at33 x0
          dsimp only at c0 c1 c2 c3
          have sw := HB.out.size
          have s1 : w.heap.size + 1 < wr.heap.size := held_lt (W := wr) (g := w.heap.size + 1)
          have a0 : Apart w.heap.size (.row wr.heap.size) := apart_ne (by omega)
          have a1 : Apart (w.heap.size + 1) (.row wr.heap.size) := apart_ne (by omega)
          have o0 : OwnB w.heap.size (.row wr.heap.size) := own_row (by omega)
          clear hI hzz HI
          by_cases h8 : k = 8
          · subst h8
            have hI := HII.out
            rw [allS, if_pos rfl] at hI
            have HI := Aside0.mk hI
            clear hI HII x0
            go_wp2_with fail
            go_roundw
            case rel => exact ⟨j + 1, t, true, Aa, Bb, Cc, ac, bc, cc, hlt, by go_num, rfl, HI, ⟨HRM.out.le (by omega)⟩, ⟨SideR.x HS.out⟩, ⟨inferInstance⟩, ⟨inferInstance⟩, ⟨bel _ _⟩⟩
            case measure => simp [intOf]; omega
          · have h8b : (k == 8) = false := beq_eq_false_iff_ne.mpr h8
            have hI := HII.out
            rw [allS, if_neg h8] at hI
            have hj2 : 2 * (l.length - j) = 2 * (l.length - (j + 1)) + 2 := by omega
            have hrm := HRM.out
            rw [hj2] at hrm
            have hrm2 := doS_room hrm (x := ⟨k, u, p, q⟩) HZZ.out.1 HZZ.out.2 (verS z j)
            have HD := Aside0.mk (fun W h => do_out W t #[.slice Aa t.f0.length ac, .slice Bb t.f1.length bc, .slice Cc t.f2.length cc] ⟨k, u, p, q⟩ (verS z j) h hrm.tiny HZZ.out.1 HZZ.out.2)
            generalize doS t ⟨k, u, p, q⟩ (verS z j) = dd at HD hI hrm2
            obtain ⟨t', code⟩ := dd
            dsimp only [A33] at HD hI hrm2
            rw [verS_mn] at HD
            have HI := Aside0.mk hI
            have HRM2 := Aside0.mk hrm2
            clear hI hrm hrm2 hj2 HII c0 c1 c2 c3
            obtain ⟨c0, c1, c2, c3⟩ := at33 x0
            dsimp only at c0 c1 c2 c3
            clear x0
            go_wp2_with fail
            refine (HD.out _ (SideR.x HS.out).side).mono ?_
            rintro e1 w2 ⟨v', rfl, hd, hb⟩
            have p2 := prev_call hb
            have hs2 := hd.sideR (by rw [World.size_alloc]; omega) (SideR.x HS.out)
            obtain ⟨A2, ac2, B2, bc2, C2, cc2, rfl, _, _, _, _, _, _⟩ := hs2.side.out
            have HS2 := Aside0.mk hs2
            have s2 : w.heap.size + 1 < w2.heap.size := held_lt (W := w2) (g := w.heap.size + 1)
            clear hb hd hs2
            have a3 : Apart w.heap.size (.row (w.heap.size + 1)) := apart_ne (by omega)
            have a4 : Apart (w.heap.size + 1) (.row w.heap.size) := apart_ne (by omega)
            have o3 : OwnB w.heap.size (.row (w.heap.size + 1)) := own_row (by omega)
            by_cases hc : code = 0
            · have hcb : (code != 0) = false := by rw [hc]; rfl
              have hI := HI.out
              rw [if_pos hc] at hI
              have HI := Aside0.mk hI
              clear hI hc
              go_wp2_with fail
              go_roundw
              case rel => exact ⟨j + 1, t', st, A2, B2, C2, ac2, bc2, cc2, hlt, by go_num, rfl, HI, HRM2, ⟨SideR.x HS2.out⟩, ⟨inferInstance⟩, ⟨inferInstance⟩, ⟨bel _ _⟩⟩
              case measure => simp [intOf]; omega
            · have hcb : (code != 0) = true := bne_iff_ne.mpr hc
              have hI := HI.out
              rw [if_neg hc] at hI
              subst hI
              clear hc
              go_wp2_with fail
              refine bodyPost_ret (results_row_tmp2 rfl _ _ (.bool st) (.bool false) held rfl rfl rfl Tryd.underlying24 rfl (by exact info24)) rfl ?_
              exact ⟨_, rfl, SideR.x HS2.out, bel _ _⟩
        · have hI := HI.out
          rw [List.drop_of_length_le (by omega)] at hI
          have hI : (t, st, true) = R := hI
          subst hI
          have s1 : w.heap.size + 1 < wr.heap.size := held_lt (W := wr) (g := w.heap.size + 1)
          have a3 : Apart w.heap.size (.row (w.heap.size + 1)) := apart_ne (by omega)
          have o3 : OwnB w.heap.size (.row (w.heap.size + 1)) := own_row (by omega)
          clear HI
          go_wp2_with fail
          refine bodyPost_ret (results_row_tmp2 rfl _ _ (.bool st) (.bool true) held rfl rfl rfl Tryd.underlying24 rfl (by exact info24)) rfl ?_
          exact ⟨_, rfl, SideR.x HS.out, bel _ _⟩
end Go.Proofs.YtjllbkeobibnkaaDoor.Q

namespace Go.Proofs.YtjllbkeobibnkaaDoor.Q
open Go Go.Proofs Go.Shelf Go.RowKit Go.Lib Go.Sort Go.Proofs.YtjllbkeobibnkaaDoorP Go.Proofs.YtjllbkeobibnkaaDoorK Go.Proofs.YtjllbkeobibnkaaDoorW.PrintWords Go.Proofs.YtjllbkeobibnkaaDoorW.PrintLast Go.Proofs.YtjllbkeobibnkaaDoorW.PrintMore
set_option linter.unusedSimpArgs false
set_option linter.unusedVariables false
def rwA (k : S58) : Bool → List S58 → List S58
  | put, [] => if put = true then [] else [k]
  | put, x :: l => if pcmp x.f0 k.f0 < 0 then x :: rwA k put l else if pcmp x.f0 k.f0 = 0 then (if put = true then [] else [k]) ++ rwA k true l else (if put = true then [] else [k]) ++ x :: rwA k true l
theorem rwA_t (k x : S58) (l : List S58) (z : Int) : rwA k true (x :: l) = if pcmp x.f0 k.f0 < 0 then x :: rwA k true l else if pcmp x.f0 k.f0 = 0 then rwA k true l else x :: rwA k true l := rfl
theorem rwA_f (k x : S58) (l : List S58) (z : Int) : rwA k false (x :: l) = if pcmp x.f0 k.f0 < 0 then x :: rwA k false l else if pcmp x.f0 k.f0 = 0 then k :: rwA k true l else k :: x :: rwA k true l := rfl
theorem rwA_rest {k : S58} {l : List S58} (h : ∀ x ∈ l, 0 < pcmp x.f0 k.f0) : rwA k true l = l := by
  induction l with
  | nil => rfl
  | cons x l ih =>
    have h1 := h x List.mem_cons_self
    rw [rwA_t k x l 0, if_neg (by omega), if_neg (by omega), ih (fun y hy => h y (List.mem_cons_of_mem _ hy))]
theorem rwA_ins (p : ByteArray) (a : S51) {l : List S58} (hr : risK l) : rwA ⟨p, a⟩ false l = insS p a l := by
  induction l with
  | nil => rfl
  | cons x l ih =>
    have h1 := List.pairwise_cons.1 hr
    rw [rwA_f _ x l 0]
    unfold insS
    dsimp only
    by_cases h : pcmp x.f0 p < 0
    · rw [if_pos h, if_pos h, ih h1.2]
    · rw [if_neg h, if_neg h]
      have hp : ∀ y ∈ l, 0 < pcmp y.f0 p := fun y hy => by
        have h2 := h1.1 y hy
        by_cases h0 : pcmp x.f0 p = 0
        · rw [← good_path.eq _ _ h0]
          exact (good_path.lt _ _).1 h2
        · have h3 : pcmp p x.f0 < 0 := (good_path.lt _ _).2 (by omega)
          exact (good_path.lt _ _).1 (good_path.trans _ _ _ h3 h2)
      rw [rwA_rest hp]
theorem At_far {w w' w'' : World} {ad : Addr} {cs : List Value} {b : Nat} (h : At w ad cs) (hb : Below b w' w'') (hlt : ad.block < b ∧ At w' ad cs) : At w'' ad cs := fun j u hj => by
  have h1 := hlt.2 j u hj
  unfold World.cell? at h1 ⊢
  have e : (ad.add j).block = ad.block := by unfold Addr.add; split <;> rfl
  rw [hb.block (ad.add j).block (by rw [e]; exact hlt.1)]
  exact h1
theorem below_two {b : Nat} {w w1 w2 w3 : World} (h1 : Below b w w1) (h2 : Below b w1 w2) (h3 : Below b w2 w3) : Below b w w3 := (h1.trans h2).trans h3
attribute [local go_sem] A51_size A51_0 A51_1 A51_g0 A51_g1 A58_size A58_0 A58_1 A58_2 A58_g0 A58_g1 A58_g2 cell_held frozen_held
attribute [local go_sem] zero51 zero58 zero65 laid58
attribute [local go_sem ↓ high] lvx_of
attribute [local go_sem] lv_sc lv24 lv33
attribute [local go_sem ↓ high] lv51 lv51s lv58 lv58a lv65 lv65a lv65l lv65r sc51 sc58 sc65 sc65a sc65l sc65r sc58a
set_option maxRecDepth 100000 in
set_option maxHeartbeats 4000000 in
theorem rwith_any (w : World) (A : Option Addr) (c : Nat) (l : List S58) (k : S58) (hC : k58.C w A l.length l) (hs : shortK l = true) (hl2 : l.length ≤ 100000) (hk : k.f0.size ≤ 65536) :
    Calls Tryd.prog 39 #[.slice A l.length c, .agg (A58 k)] w fun e w' => ∃ v, e = .returned v ∧ k58.R 58 w' w.heap.size (fun _ => True) v (rwA k false l) ∧ Below w.heap.size w w' := by
  obtain ⟨hl, hsz⟩ := shortK_open hs
  have HR := Aside0.mk hC
  have HZ := Aside0.mk hsz
  have HK := Aside0.mk hk
  obtain ⟨R, hR⟩ : ∃ R, rwA k false l = R := ⟨_, rfl⟩
  rw [hR]
  have HRR := Aside0.mk hR
  clear hC hs hsz hR hk
  go_enter Tryd.func39, Tryd.ntmps39
  go_wp2_with fail
  have hbox : Go.Proofs.YtjllbkeobibnkaaDoorK.Holds (w.alloc (.cells (A58 k) 58)) w.heap.size (.cells (A58 k) 58) := inferInstance
  go_loopw [5, 6, 7] (fun u pv i wr => ∃ (j : Nat) (out : List S58) (put : Bool), j ≤ l.length ∧ i = .int .i64 (j : Int) ∧ pv = .bool put ∧ Aside0 (out ++ rwA k put (l.drop j) = R) ∧ out.length ≤ 2 * j + 1 ∧ Aside0 (k58.R 58 wr (w.heap.size + 1) (fun _ => True) u out) ∧ Aside0 (Go.Proofs.YtjllbkeobibnkaaDoorK.Holds wr w.heap.size (.cells (A58 k) 58)) ∧ Aside0 (Below (w.heap.size + 1) (w.alloc (.cells (A58 k) 58)) wr)) (fun _ _ i _ => l.length - (intOf i).toNat)
  case atStart => exact ⟨0, [], false, Nat.zero_le _, rfl, rfl, HRR, by simp, ⟨Kd.R_nil _ _ _ _ _⟩, ⟨inferInstance⟩, ⟨Below.refl _ _⟩⟩
  case round =>
    obtain ⟨j, out, put, hj, rfl, rfl, HI, hol, HO, HH, HBR⟩ := hrel
    have hh := HH.out
    have hsz1 : w.heap.size + 1 ≤ wr.heap.size := by have := HBR.out.size; rw [World.size_alloc] at this; exact this
    have pr := prev_above HBR.out
    have bw : Bel w.heap.size w wr := ⟨fun _ => (below_alloc (Below.refl w.heap.size w) _).trans (HBR.out.mono (Nat.le_succ _))⟩
    obtain ⟨Ao, co, ho⟩ := Kd.R_slice HO.out
    subst ho
    by_cases hlt : j < l.length
    · obtain ⟨ad, e0, x0⟩ := C58_at HR.out j hlt
      subst e0
      have hI := HI.out
      rw [List.drop_eq_getElem_cons hlt] at hI
      have hz0 := HZ.out _ (List.getElem_mem hlt)
      generalize l[j] = x at x0 hI hz0
      have hbl : (ad.add (j * 35)).block < w.heap.size + 1 := by
        have := World.block_lt_of_cell? w _ (x0 0 _ rfl)
        rw [Go.Proofs.YtjllbkeobibnkaaDoorK.add_zero_] at this
        omega
      replace x0 := At_below x0 (bel w wr)
      have X0 := Aside0.mk x0
      have X0E := Aside0.mk (And.intro hbl x0)
      have HCX := Aside0.mk (fun W => rCmp_any W x.f0 k.f0 hz0 HK.out)
      have x1 := (At58 x0).1
      rw [add_zero_] at x1
      cases put with
        | false =>
          rw [rwA_f k x _ 0] at hI
          generalize pcmp x.f0 k.f0 = z at HCX hI
          have HII := Aside0.mk hI
          clear hI
          rcases (show z < 0 ∨ z = 0 ∨ 0 < z by omega) with hz | hz | hz
          · have g1 : ¬ (0 ≤ z) := by omega
            have g3 : (z != 0) = true := bne_iff_ne.mpr (by omega)
            have hI := HII.out
            rw [if_pos hz] at hI
            have HIN : Aside0 ((out ++ [x]) ++ rwA k false (l.drop (j + 1)) = R) := ⟨by rw [← hI] <;> simp⟩
            clear hI HII hz
            go_wp2_with fail
            go_still_tail 7, (by kernel_rfl)
            change wpList _ _ _ _ _ wr.drew
            have p2 : Prev wr.drew wr .none := inferInstance
            generalize wr.drew = w2 at p2 ⊢
            go_wp2_with fail
            refine (HCX.out _).mono ?_
            rintro e w3 ⟨rfl, hb⟩
            have p3 := prev_call hb
            clear hb
            have X3 := Aside0.mk (At_below X0.out (bel wr w3))
            go_wp2_with (first
              | (refine seg_load rfl 58 (.tmp 38) rfl X3.out (A58 x) rfl rfl Tryd.underlying58 rfl (by rw [L58_len]; exact info58s) ?_)
              | ((with_reducible refine gate_builtin (b := .append) (xs := #[.tmp 35, .tmp 40]) rfl ?_); at_builtin; refine app58 (w0 := wr) (w.heap.size + 1) rfl (.tmp 35) (.tmp 40) rfl (.slice Ao out.length co) out x rfl ?aX ?aO ?aB ?aS ?aL ?_; (case aX => first | rfl | (simp only [World.size_setCell, size_setRow, World.size_alloc]; rfl)); (case aO => exact rowB HO.out (bel wr _)); (case aB => exact (inferInstance : Bel (w.heap.size + 1) wr _).out (by first | exact Nat.le_refl _ | omega)); (case aS => exact Nat.le_trans (by omega) (siz wr _)); (case aL => omega); intro v7 w7 h7 hb7 hg7 hat7; have p7 := prev_above hb7; have HB7 := Aside0.mk hb7; have HV7 := Aside0.mk h7; clear hb7 h7 hg7 hat7))
            go_roundw
            case rel => exact ⟨j + 1, out ++ [x], false, by omega, by go_num, rfl, HIN, by (try simp only [List.length_append, List.length_singleton] at *); omega, HV7, ⟨inferInstance⟩, ⟨HBR.out.trans HB7.out⟩⟩
            case measure => simp [intOf]; omega
          · subst hz
            have hI := HII.out
            rw [if_neg (by omega), if_pos rfl] at hI
            have HIN : Aside0 ((out ++ [k]) ++ rwA k true (l.drop (j + 1)) = R) := ⟨by rw [← hI] <;> simp⟩
            clear hI HII
            go_wp2_with fail
            go_still_tail 7, (by kernel_rfl)
            change wpList _ _ _ _ _ wr.drew
            have p2 : Prev wr.drew wr .none := inferInstance
            generalize wr.drew = w2 at p2 ⊢
            go_wp2_with fail
            refine (HCX.out _).mono ?_
            rintro e w3 ⟨rfl, hb⟩
            have p3 := prev_call hb
            clear hb
            have X3 := Aside0.mk (At_below X0.out (bel wr w3))
            go_wp2_with (first
              | ((with_reducible refine gate_builtin (b := .append) (xs := #[.tmp 29, .tmp 31]) rfl ?_); at_builtin; refine app58 (w0 := wr) (w.heap.size + 1) rfl (.tmp 29) (.tmp 31) rfl (.slice Ao out.length co) out k rfl ?aX ?aO ?aB ?aS ?aL ?_; (case aX => first | rfl | (simp only [World.size_setCell, size_setRow, World.size_alloc]; rfl)); (case aO => exact rowB HO.out (bel wr _)); (case aB => exact (inferInstance : Bel (w.heap.size + 1) wr _).out (by first | exact Nat.le_refl _ | omega)); (case aS => exact Nat.le_trans (by omega) (siz wr _)); (case aL => omega); intro v6 w6 h6 hb6 hg6 hat6; have p6 := prev_above hb6; have HB6 := Aside0.mk hb6; have HV6 := Aside0.mk h6; clear hb6 h6 hg6 hat6))
            go_roundw
            case rel => exact ⟨j + 1, out ++ [k], true, by omega, by go_num, rfl, HIN, by (try simp only [List.length_append, List.length_singleton] at *); omega, HV6, ⟨inferInstance⟩, ⟨HBR.out.trans HB6.out⟩⟩
            case measure => simp [intOf]; omega
          · have g1 : 0 ≤ z := by omega
            have g3 : (z != 0) = true := bne_iff_ne.mpr (by omega)
            have hI := HII.out
            rw [if_neg (by omega), if_neg (by omega)] at hI
            have HIN : Aside0 ((out ++ [k] ++ [x]) ++ rwA k true (l.drop (j + 1)) = R) := ⟨by rw [← hI] <;> simp⟩
            clear hI HII hz
            go_wp2_with fail
            go_still_tail 7, (by kernel_rfl)
            change wpList _ _ _ _ _ wr.drew
            have p2 : Prev wr.drew wr .none := inferInstance
            generalize wr.drew = w2 at p2 ⊢
            go_wp2_with fail
            refine (HCX.out _).mono ?_
            rintro e w3 ⟨rfl, hb⟩
            have p3 := prev_call hb
            clear hb
            have X3 := Aside0.mk (At_below X0.out (bel wr w3))
            go_wp2_with (first
              | ((with_reducible refine gate_builtin (b := .append) (xs := #[.tmp 29, .tmp 31]) rfl ?_); at_builtin; refine app58 (w0 := wr) (w.heap.size + 1) rfl (.tmp 29) (.tmp 31) rfl (.slice Ao out.length co) out k rfl ?aX ?aO ?aB ?aS ?aL ?_; (case aX => first | rfl | (simp only [World.size_setCell, size_setRow, World.size_alloc]; rfl)); (case aO => exact rowB HO.out (bel wr _)); (case aB => exact (inferInstance : Bel (w.heap.size + 1) wr _).out (by first | exact Nat.le_refl _ | omega)); (case aS => exact Nat.le_trans (by omega) (siz wr _)); (case aL => omega); intro v6 w6 h6 hb6 hg6 hat6; have p6 := prev_above hb6; have HB6 := Aside0.mk hb6; obtain ⟨A6, c6, e6⟩ := Kd.R_slice h6; subst e6; rw [List.length_append, List.length_singleton] at h6; have HV6 := Aside0.mk h6; clear hb6 h6 hg6 hat6)
              | (refine seg_load rfl 58 (.tmp 38) rfl (At_far X3.out HB6.out X0E.out) (A58 x) rfl rfl Tryd.underlying58 rfl (by rw [L58_len]; exact info58s) ?_)
              | ((with_reducible refine gate_builtin (b := .append) (xs := #[.tmp 35, .tmp 40]) rfl ?_); at_builtin; refine app58 (w0 := w6) (w.heap.size + 1) rfl (.tmp 35) (.tmp 40) rfl (.slice A6 (out.length + 1) c6) (out ++ [k]) x rfl ?aX ?aO ?aB ?aS ?aL ?_; (case aX => first | rfl | (simp only [World.size_setCell, size_setRow, World.size_alloc]; rfl)); (case aO => exact rowB HV6.out (bel w6 _)); (case aB => exact (inferInstance : Bel (w.heap.size + 1) w6 _).out (by have := HB6.out.size; omega)); (case aS => exact Nat.le_trans (by have := HB6.out.size; omega) (siz w6 _)); (case aL => simp only [List.length_append, List.length_singleton]; omega); intro v7 w7 h7 hb7 hg7 hat7; have p7 := prev_above hb7; have HB7 := Aside0.mk hb7; have HV7 := Aside0.mk h7; clear hb7 h7 hg7 hat7))
            go_roundw
            case rel => exact ⟨j + 1, out ++ [k] ++ [x], true, by omega, by go_num, rfl, HIN, by (try simp only [List.length_append, List.length_singleton] at *); omega, HV7, ⟨inferInstance⟩, ⟨below_two HBR.out HB6.out HB7.out⟩⟩
            case measure => simp [intOf]; omega
        | true =>
          rw [rwA_t k x _ 0] at hI
          generalize pcmp x.f0 k.f0 = z at HCX hI
          have HII := Aside0.mk hI
          clear hI
          rcases (show z < 0 ∨ z = 0 ∨ 0 < z by omega) with hz | hz | hz
          · have g1 : ¬ (0 ≤ z) := by omega
            have g3 : (z != 0) = true := bne_iff_ne.mpr (by omega)
            have hI := HII.out
            rw [if_pos hz] at hI
            have HIN : Aside0 ((out ++ [x]) ++ rwA k true (l.drop (j + 1)) = R) := ⟨by rw [← hI] <;> simp⟩
            clear hI HII hz
            go_wp2_with fail
            go_still_tail 7, (by kernel_rfl)
            change wpList _ _ _ _ _ wr.drew
            have p2 : Prev wr.drew wr .none := inferInstance
            generalize wr.drew = w2 at p2 ⊢
            go_wp2_with fail
            refine (HCX.out _).mono ?_
            rintro e w3 ⟨rfl, hb⟩
            have p3 := prev_call hb
            clear hb
            have X3 := Aside0.mk (At_below X0.out (bel wr w3))
            go_wp2_with (first
              | (refine seg_load rfl 58 (.tmp 38) rfl X3.out (A58 x) rfl rfl Tryd.underlying58 rfl (by rw [L58_len]; exact info58s) ?_)
              | ((with_reducible refine gate_builtin (b := .append) (xs := #[.tmp 35, .tmp 40]) rfl ?_); at_builtin; refine app58 (w0 := wr) (w.heap.size + 1) rfl (.tmp 35) (.tmp 40) rfl (.slice Ao out.length co) out x rfl ?aX ?aO ?aB ?aS ?aL ?_; (case aX => first | rfl | (simp only [World.size_setCell, size_setRow, World.size_alloc]; rfl)); (case aO => exact rowB HO.out (bel wr _)); (case aB => exact (inferInstance : Bel (w.heap.size + 1) wr _).out (by first | exact Nat.le_refl _ | omega)); (case aS => exact Nat.le_trans (by omega) (siz wr _)); (case aL => omega); intro v7 w7 h7 hb7 hg7 hat7; have p7 := prev_above hb7; have HB7 := Aside0.mk hb7; have HV7 := Aside0.mk h7; clear hb7 h7 hg7 hat7))
            go_roundw
            case rel => exact ⟨j + 1, out ++ [x], true, by omega, by go_num, rfl, HIN, by (try simp only [List.length_append, List.length_singleton] at *); omega, HV7, ⟨inferInstance⟩, ⟨HBR.out.trans HB7.out⟩⟩
            case measure => simp [intOf]; omega
          · subst hz
            have hI := HII.out
            rw [if_neg (by omega), if_pos rfl] at hI
            have HIN : Aside0 ((out) ++ rwA k true (l.drop (j + 1)) = R) := ⟨by rw [← hI] <;> simp⟩
            clear hI HII
            go_wp2_with fail
            go_still_tail 7, (by kernel_rfl)
            change wpList _ _ _ _ _ wr.drew
            have p2 : Prev wr.drew wr .none := inferInstance
            generalize wr.drew = w2 at p2 ⊢
            go_wp2_with fail
            refine (HCX.out _).mono ?_
            rintro e w3 ⟨rfl, hb⟩
            have p3 := prev_call hb
            clear hb
            have X3 := Aside0.mk (At_below X0.out (bel wr w3))
            go_wp2_with fail
            go_roundw
            case rel => exact ⟨j + 1, out, true, by omega, by go_num, rfl, HIN, by (try simp only [List.length_append, List.length_singleton] at *); omega, ⟨rowB HO.out (bel wr _)⟩, ⟨inferInstance⟩, ⟨HBR.out.trans ((inferInstance : Bel (w.heap.size + 1) wr _).out (by omega))⟩⟩
            case measure => simp [intOf]; omega
          · have g1 : 0 ≤ z := by omega
            have g3 : (z != 0) = true := bne_iff_ne.mpr (by omega)
            have hI := HII.out
            rw [if_neg (by omega), if_neg (by omega)] at hI
            have HIN : Aside0 ((out ++ [x]) ++ rwA k true (l.drop (j + 1)) = R) := ⟨by rw [← hI] <;> simp⟩
            clear hI HII hz
            go_wp2_with fail
            go_still_tail 7, (by kernel_rfl)
            change wpList _ _ _ _ _ wr.drew
            have p2 : Prev wr.drew wr .none := inferInstance
            generalize wr.drew = w2 at p2 ⊢
            go_wp2_with fail
            refine (HCX.out _).mono ?_
            rintro e w3 ⟨rfl, hb⟩
            have p3 := prev_call hb
            clear hb
            have X3 := Aside0.mk (At_below X0.out (bel wr w3))
            go_wp2_with (first
              | (refine seg_load rfl 58 (.tmp 38) rfl X3.out (A58 x) rfl rfl Tryd.underlying58 rfl (by rw [L58_len]; exact info58s) ?_)
              | ((with_reducible refine gate_builtin (b := .append) (xs := #[.tmp 35, .tmp 40]) rfl ?_); at_builtin; refine app58 (w0 := wr) (w.heap.size + 1) rfl (.tmp 35) (.tmp 40) rfl (.slice Ao out.length co) out x rfl ?aX ?aO ?aB ?aS ?aL ?_; (case aX => first | rfl | (simp only [World.size_setCell, size_setRow, World.size_alloc]; rfl)); (case aO => exact rowB HO.out (bel wr _)); (case aB => exact (inferInstance : Bel (w.heap.size + 1) wr _).out (by first | exact Nat.le_refl _ | omega)); (case aS => exact Nat.le_trans (by omega) (siz wr _)); (case aL => omega); intro v7 w7 h7 hb7 hg7 hat7; have p7 := prev_above hb7; have HB7 := Aside0.mk hb7; have HV7 := Aside0.mk h7; clear hb7 h7 hg7 hat7))
            go_roundw
            case rel => exact ⟨j + 1, out ++ [x], true, by omega, by go_num, rfl, HIN, by (try simp only [List.length_append, List.length_singleton] at *); omega, HV7, ⟨inferInstance⟩, ⟨HBR.out.trans HB7.out⟩⟩
            case measure => simp [intOf]; omega
    · have hI := HI.out
      rw [List.drop_of_length_le (by omega)] at hI
      cases put with
      | true =>
        have hI2 : out = R := by rw [← hI]; simp [rwA]
        have HIE := Aside0.mk hI2
        clear hI HI hI2
        go_wp2_with fail
        go_ret
        exact ⟨_, rfl, by rw [← HIE.out]; exact Kd.R_lower HO.out (by omega), bel _ _⟩
      | false =>
        have hI2 : out ++ [k] = R := by rw [← hI]; simp [rwA]
        have HIE := Aside0.mk hI2
        clear hI HI hI2
        go_wp2_with ((with_reducible refine gate_builtin (b := .append) (xs := #[.tmp 44, .tmp 46]) rfl ?_); at_builtin; refine app58 (w0 := wr) (w.heap.size + 1) rfl (.tmp 44) (.tmp 46) rfl (.slice Ao out.length co) out k rfl ?aX ?aO ?aB ?aS ?aL ?_; (case aX => first | rfl | (simp only [World.size_setCell, size_setRow, World.size_alloc]; rfl)); (case aO => exact rowB HO.out (bel wr _)); (case aB => exact (inferInstance : Bel (w.heap.size + 1) wr _).out (by first | exact Nat.le_refl _ | omega)); (case aS => exact Nat.le_trans (by omega) (siz wr _)); (case aL => omega); intro v6 w6 h6 hb6 hg6 hat6; have p6 := prev_above hb6; have HB6 := Aside0.mk hb6; have HV6 := Aside0.mk h6; clear hb6 h6 hg6 hat6)
        go_ret
        exact ⟨_, rfl, by rw [← HIE.out]; exact Kd.R_lower HV6.out (by omega), (below_alloc (Below.refl w.heap.size w) _).trans ((HBR.out.trans HB6.out).mono (Nat.le_succ _))⟩
end Go.Proofs.YtjllbkeobibnkaaDoor.Q

namespace Go.Proofs.YtjllbkeobibnkaaDoor.Q
open Go Go.Proofs Go.Shelf Go.RowKit Go.Lib Go.Sort Go.Proofs.YtjllbkeobibnkaaDoorP Go.Proofs.YtjllbkeobibnkaaDoorK Go.Proofs.YtjllbkeobibnkaaDoorW.PrintWords Go.Proofs.YtjllbkeobibnkaaDoorW.PrintLast Go.Proofs.YtjllbkeobibnkaaDoorW.PrintMore
set_option linter.unusedSimpArgs false
set_option linter.unusedVariables false
def freeN (cp : Nat → ByteArray × Int) (tk : ByteArray → Bool) : Nat → Nat → ByteArray × Bool
  | 0, _ => (⟨#[]⟩, false)
  | d + 1, n => if (cp n).2 = 0 ∧ tk (cp n).1 = false then ((cp n).1, true) else freeN cp tk d (n + 1)
/-- What is asked of the predicate. -/
def PredF (g : Nat) (bs : Array Value) (tk : ByteArray → Bool) (w : World) : Prop := ∀ W q, Below w.heap.size w W → Calls Tryd.prog g (#[.string q] ++ bs) W fun e w' => e = .returned (.bool (tk q)) ∧ Below W.heap.size W w'
set_option maxRecDepth 100000 in
set_option maxHeartbeats 2000000 in
theorem free_any (w : World) (p : ByteArray) (g : Nat) (bs : Array Value) (eg : ∀ args w, (callFunc g args).run Tryd.prog w = .ok (.enter g args) w) (cp : Nat → ByteArray × Int) (tk : ByteArray → Bool) (hp : PredF g bs tk w)
    (hcp : ∀ W (n : Nat), 1 ≤ n → n ≤ 999 → Calls Tryd.prog 56 #[.string p, .int .i64 (n : Int)] W fun e w' => e = .returned (.tuple #[.string (cp n).1, .int .i64 (cp n).2]) ∧ Below W.heap.size W w') :
    Calls Tryd.prog 29 #[.string p, .func (.func g) #[] bs] w fun e w' => e = .returned (.tuple #[.string (freeN cp tk 999 1).1, .bool (freeN cp tk 999 1).2]) ∧ Below w.heap.size w w' := by
  have HP := Aside0.mk hp
  have HC := Aside0.mk hcp
  obtain ⟨R, hR⟩ : ∃ R, freeN cp tk 999 1 = R := ⟨_, rfl⟩
  rw [hR]
  clear hp hcp
  go_enter Tryd.func29, Tryd.ntmps29
  go_wp2_with fail
  go_loopw [9] (fun i wr => ∃ j : Nat, j ≤ 999 ∧ i = .int .i64 (j : Int) ∧ Aside0 (freeN cp tk (999 - j) (j + 1) = R) ∧ Aside0 (Below w.heap.size w wr)) (fun i _ => 999 - (intOf i).toNat)
  case atStart => exact ⟨0, Nat.zero_le _, rfl, ⟨hR⟩, ⟨Below.refl _ _⟩⟩
  case round =>
    obtain ⟨j, hj, rfl, HI, HB⟩ := hrel
    have bw : Bel w.heap.size w wr := ⟨fun _ => HB.out⟩
    clear hR
    by_cases hlt : j < 999
    · have hI := HI.out
      obtain ⟨d, hd⟩ : ∃ d, 999 - j = d + 1 := ⟨998 - j, by omega⟩
      rw [hd] at hI
      simp only [freeN] at hI
      have hc := fun W => HC.out W (j + 1) (by omega) (by omega)
      generalize cp (j + 1) = q at hc hI
      obtain ⟨q, e⟩ := q
      dsimp only at hc hI
      have hd2 : d = 999 - (j + 1) := by omega
      rw [hd2] at hI
      have HC2 := Aside0.mk hc
      have HII := Aside0.mk hI
      have hpq := fun W (hb : Below w.heap.size w W) => HP.out W q hb
      generalize tk q = b at hpq HII
      have HPQ := Aside0.mk hpq
      clear hc hI hd hd2 HI hpq
      have hw1 : ((j + 1 : Nat) : Int) = (j : Int) + 1 := by omega
      rw [hw1] at HC2
      clear hw1
      by_cases h0 : e = 0
      · subst h0
        go_wp2_with fail
        refine (HC2.out _).mono ?_
        rintro r1 w1 ⟨rfl, hb⟩
        have p1 := prev_call hb
        clear hb
        go_wp2_with fail
        refine (HPQ.out _ (bel _ _)).mono ?_
        rintro r2 w2 ⟨rfl, hb⟩
        have p2 := prev_call hb
        clear hb
        cases b with
        | false =>
          have hI := HII.out
          simp only [true_and, if_true] at hI
          have HI := Aside0.mk hI
          clear hI
          go_wp2_with fail
          go_ret2
          exact ⟨by rw [← HI.out]; rfl, bel _ _⟩
        | true =>
          have hI := HII.out
          rw [if_neg (fun h => absurd h.2 (by decide))] at hI
          have HI := Aside0.mk hI
          clear hI
          go_wp2_with fail
          go_roundw
          case rel => exact ⟨j + 1, by omega, by go_num, HI, ⟨bel _ _⟩⟩
          case measure => simp [intOf]; omega
      · have hI := HII.out
        rw [if_neg (fun h => absurd h.1 h0)] at hI
        have HI := Aside0.mk hI
        clear hI
        go_wp2_with fail
        refine (HC2.out _).mono ?_
        rintro r1 w1 ⟨rfl, hb⟩
        have p1 := prev_call hb
        clear hb
        go_wp2_with fail
        go_roundw
        case rel => exact ⟨j + 1, by omega, by go_num, HI, ⟨bel _ _⟩⟩
        case measure => simp [intOf]; omega
    · have hI := HI.out
      obtain rfl : j = 999 := by omega
      simp only [Nat.sub_self, freeN] at hI
      have HI' := Aside0.mk hI
      clear hI HI
      go_wp2_with fail
      go_ret2
      exact ⟨by rw [← HI'.out]; rfl, bel _ _⟩
end Go.Proofs.YtjllbkeobibnkaaDoor.Q

namespace Go.Proofs.YtjllbkeobibnkaaDoor.Q
open Go Go.Proofs Go.Shelf Go.RowKit Go.Lib Go.Sort Go.Proofs.YtjllbkeobibnkaaDoorP Go.Proofs.YtjllbkeobibnkaaDoorK Go.Proofs.YtjllbkeobibnkaaDoorW.PrintWords Go.Proofs.YtjllbkeobibnkaaDoorW.PrintLast Go.Proofs.YtjllbkeobibnkaaDoorW.PrintMore
set_option linter.unusedSimpArgs false
set_option linter.unusedVariables false
attribute [local go_sem] cell_held frozen_held
attribute [local go_sem ↓ high] lvx_of
attribute [local go_sem] lv_sc lv24 lv33
def inL (l : List ByteArray) (q : ByteArray) : Bool := l.any fun x => x.toList == q.toList
end Go.Proofs.YtjllbkeobibnkaaDoor.Q

namespace Go.Proofs.YtjllbkeobibnkaaDoor.Q
open Go Go.Proofs Go.Shelf Go.RowKit Go.Lib Go.Sort Go.Proofs.YtjllbkeobibnkaaDoorP Go.Proofs.YtjllbkeobibnkaaDoorK Go.Proofs.YtjllbkeobibnkaaDoorW.PrintWords Go.Proofs.YtjllbkeobibnkaaDoorW.PrintLast Go.Proofs.YtjllbkeobibnkaaDoorW.PrintMore
set_option linter.unusedSimpArgs false
set_option linter.unusedVariables false
def idxB (q : ByteArray) : Nat → List ByteArray → Int
  | _, [] => -1
  | i, x :: l => if (q.toList == x.toList) = true then (i : Int) else idxB q (i + 1) l
theorem idxB_in (q : ByteArray) (l : List ByteArray) : ∀ i : Nat, decide (0 ≤ idxB q i l) = inL l q := by
  induction l with
  | nil => intro i; rfl
  | cons x l ih =>
    intro i
    unfold idxB inL
    rw [List.any_cons]
    have hs : (x.toList == q.toList) = (q.toList == x.toList) := by rw [Bool.eq_iff_iff, beq_iff_eq, beq_iff_eq]; exact eq_comm
    rw [hs]
    cases h : (q.toList == x.toList) with
    | true => rw [if_pos rfl, Bool.true_or]; exact decide_eq_true (by omega)
    | false => rw [if_neg (by decide), Bool.false_or]; exact ih (i + 1)
attribute [local go_sem] cell_held frozen_held
attribute [local go_sem ↓ high] lvx_of
attribute [local go_sem] lv_sc lv24 lv33
set_option maxRecDepth 100000 in
set_option maxHeartbeats 1000000 in
theorem idxs_any (w : World) (A : Option Addr) (c : Nat) (l : List ByteArray) (q : ByteArray) (hC : Kd.C Kd.string w A l.length l) (hl : l.length ≤ 1048576) :
    Calls Tryd.prog 70 #[.slice A l.length c, .string q] w fun e w' => e = .returned (.int .i64 (idxB q 0 l)) ∧ Below w.heap.size w w' := by
  have HR := Aside0.mk hC
  obtain ⟨R, hR⟩ : ∃ R, idxB q 0 l = R := ⟨_, rfl⟩
  rw [hR]
  have HR0 := Aside0.mk hR
  clear hC hR
  go_enter Tryd.func70, Tryd.ntmps70
  go_wp2_with fail
  go_loopw [8] (fun i wr => ∃ j : Nat, j ≤ l.length ∧ i = .int .i64 (j : Int) ∧ Aside0 (idxB q j (l.drop j) = R) ∧ wr = w) (fun i _ => l.length - (intOf i).toNat)
  case atStart => exact ⟨0, Nat.zero_le _, rfl, HR0, rfl⟩
  case round =>
    obtain ⟨j, hj, rfl, HI, hw⟩ := hrel
    obtain rfl : w = wr := hw.symm
    by_cases hlt : j < l.length
    · obtain ⟨ad, e, x0⟩ := C_str' HR.out j hlt
      subst e
      have hI := HI.out
      rw [List.drop_eq_getElem_cons hlt] at hI
      simp only [idxB] at hI
      generalize l[j] = x at x0 hI
      have HII := Aside0.mk hI
      clear HI hI
      cases hx : (q.toList == x.toList) with
      | true =>
        have hI := HII.out
        rw [if_pos hx] at hI
        have HI := Aside0.mk hI
        clear hI
        go_wp2_with fail
        go_ret
        exact ⟨by rw [← HI.out]; rfl, bel _ _⟩
      | false =>
        have hI := HII.out
        rw [if_neg (by rw [hx]; decide)] at hI
        have HI := Aside0.mk hI
        clear hI
        go_wp2_with fail
        go_roundw
        case rel => exact ⟨j + 1, by omega, by go_num, HI, trivial⟩
        case measure => simp [intOf]; omega
    · have hI := HI.out
      rw [List.drop_of_length_le (by omega)] at hI
      have HI' := Aside0.mk hI
      clear hI HI
      go_wp2_with fail
      go_ret
      exact ⟨by rw [← HI'.out]; rfl, bel _ _⟩
set_option maxRecDepth 100000 in
theorem cont_any (w : World) (A : Option Addr) (c : Nat) (l : List ByteArray) (q : ByteArray) (hC : Kd.C Kd.string w A l.length l) (hl : l.length ≤ 1048576) :
    Calls Tryd.prog 46 #[.slice A l.length c, .string q] w fun e w' => e = .returned (.bool (inL l q)) ∧ Below w.heap.size w w' := by
  have HI := Aside0.mk (fun W (hb : Below w.heap.size w W) => idxs_any W A c l q (Kd.C_below hC hb) hl)
  rw [← idxB_in q l 0]
  generalize idxB q 0 l = k at HI
  clear hC
  by_cases h0 : 0 ≤ k
  · have h1 : decide (0 ≤ k) = true := decide_eq_true h0
    rw [h1]
    go_enter Tryd.func46, Tryd.ntmps46
    go_wp2_with fail
    refine (HI.out _ (bel _ _)).mono ?_
    rintro r1 w1 ⟨rfl, hb⟩
    have p1 := prev_call hb
    clear hb
    go_wp2_with fail
    go_ret
    exact ⟨by simp [h0], bel _ _⟩
  · have h1 : decide (0 ≤ k) = false := decide_eq_false h0
    rw [h1]
    go_enter Tryd.func46, Tryd.ntmps46
    go_wp2_with fail
    refine (HI.out _ (bel _ _)).mono ?_
    rintro r1 w1 ⟨rfl, hb⟩
    have p1 := prev_call hb
    clear hb
    go_wp2_with fail
    go_ret
    exact ⟨by simp [h0], bel _ _⟩
/-- What a plan's copies are not taken of. -/
def takenS (s : S24) (ch : List ByteArray) (q : ByteArray) : Bool := hasK s q || inL ch q
set_option maxRecDepth 100000 in
set_option maxHeartbeats 1000000 in
theorem plan1_any (w : World) (s : S24) (v : Array Value) (b b2 : Nat) (A : Option Addr) (cc : Nat) (ch : List ByteArray) (hs : SideIn w s v) (ho : okS s = true) (h : w.heap[b]? = some (.cells v 24 (0, 0))) (h2 : w.heap[b2]? = some (.cells #[.slice A ch.length cc] 41 (0, 0))) (hC : Kd.C Kd.string w A ch.length ch) (hl : ch.length ≤ 1048576) :
    PredF 45 #[.pointer (some ⟨b, 0, none⟩), .pointer (some ⟨b2, 0, none⟩)] (takenS s ch) w := by
  intro W q hb
  have HA := Aside0.mk (fun W' (hb' : Below W.heap.size W W') => has_any W' s v q ((hs.below hb).below hb') (okS_short ho))
  have HC := Aside0.mk (fun W' (hb' : Below W.heap.size W W') => cont_any W' A cc ch q (Kd.C_below (Kd.C_below hC hb) hb') hl)
  have hW := (hb.block b (blk_lt h)).trans h
  have hW2 := (hb.block b2 (blk_lt h2)).trans h2
  obtain ⟨A', c, B, d, C, e, rfl, l1, l2, l3, h1, h2', h3⟩ := hs.out
  have hh : Go.Proofs.YtjllbkeobibnkaaDoorK.Holds W b (.cells #[.slice A' s.f0.length c, .slice B s.f1.length d, .slice C s.f2.length e] 24) := ⟨hW⟩
  have hh2 : Go.Proofs.YtjllbkeobibnkaaDoorK.Holds W b2 (.cells #[.slice A ch.length cc] 41) := ⟨hW2⟩
  have hlt := blk_lt hW
  have hlt2 := blk_lt hW2
  clear hs ho l1 l2 l3 h1 h2 h3 hb hW hW2 h hC hl h2'
  unfold takenS
  show Calls Tryd.prog _ #[.string q, .pointer (some ⟨b, 0, none⟩), .pointer (some ⟨b2, 0, none⟩)] W _
  generalize s.f0.length = n0 at *
  generalize s.f1.length = n1 at *
  generalize s.f2.length = n2 at *
  generalize ch.length = n3 at *
  generalize hasK s q = x at *
  generalize inL ch q = y at *
  cases x with
  | true =>
    go_enter Tryd.func45, Tryd.ntmps45
    go_wp2_with fail
    refine (HA.out _ (bel _ _)).mono ?_
    rintro r1 w1 ⟨rfl, hb⟩
    have p1 := prev_call hb
    clear hb
    go_wp2_with fail
    go_ret
    exact ⟨rfl, bel _ _⟩
  | false =>
    go_enter Tryd.func45, Tryd.ntmps45
    go_wp2_with fail
    refine (HA.out _ (bel _ _)).mono ?_
    rintro r1 w1 ⟨rfl, hb⟩
    have p1 := prev_call hb
    clear hb
    go_wp2_with fail
    refine (HC.out _ (bel _ _)).mono ?_
    rintro r2 w2 ⟨rfl, hb⟩
    have p2 := prev_call hb
    clear hb
    go_wp2_with fail
    go_ret
    exact ⟨rfl, bel _ _⟩
end Go.Proofs.YtjllbkeobibnkaaDoor.Q

namespace Go.Proofs.YtjllbkeobibnkaaDoor.Q
open Go Go.Proofs Go.Shelf Go.RowKit Go.Proofs.YtjllbkeobibnkaaDoorK Go.Proofs.YtjllbkeobibnkaaDoorW.PrintWords Go.Proofs.YtjllbkeobibnkaaDoorW.PrintLast Go.Proofs.YtjllbkeobibnkaaDoorW.PrintMore
set_option linter.unusedSimpArgs false
set_option linter.unusedVariables false
/-- Where the first one stands that is no '0'. -/
def idxU : Nat → List UInt8 → Int
  | _, [] => -1
  | i, x :: l => if x = 48 then idxU (i + 1) l else (i : Int)
set_option maxRecDepth 100000 in
theorem dec1_any (w : World) (c : UInt8) : Calls Tryd.prog 92 #[.int .u8 (c.toNat : Int)] w fun e w' => e = .returned (.bool (!decide (c = 48))) ∧ w = w' := by
  have hc : ((c.toNat : Int) != 48) = !decide (c = 48) := by
    by_cases h : c = 48
    · subst h; rfl
    · have : (c.toNat : Int) ≠ 48 := fun e => h (UInt8.toNat_inj.1 (by have : (48 : UInt8).toNat = 48 := rfl; omega))
      rw [bne_iff_ne.mpr this, decide_eq_false h]
      rfl
  rw [← hc]
  clear hc
  go_enter Tryd.func92, Tryd.ntmps92
  go_wp2_with fail
  go_ret
  exact ⟨rfl, rfl⟩
set_option maxRecDepth 100000 in
set_option maxHeartbeats 1000000 in
theorem idxu_any (w : World) (b c : Nat) (l : List UInt8) (hl : l.length ≤ 1048576) (hc : ∀ j (h : j < l.length), w.cell? ⟨b, j, none⟩ = some (.int .u8 (l[j].toNat : Int))) :
    Calls Tryd.prog 91 #[.slice (some ⟨b, 0, none⟩) l.length c, .func (.func 92) #[] #[]] w fun e w' => e = .returned (.int .i64 (idxU 0 l)) ∧ w = w' := by
  have eg : ∀ args w, (callFunc 92 args).run Tryd.prog w = .ok (.enter 92 args) w := enters_of Tryd.func92 (by kernel_rfl) rfl
  have HC := Aside0.mk hc
  have HD := Aside0.mk (fun c => dec1_any w c)
  clear hc
  go_enter Tryd.func91, Tryd.ntmps91
  go_wp2_with fail
  go_loopw [8] (fun i wr => ∃ j : Nat, j ≤ l.length ∧ i = .int .i64 (j : Int) ∧ Aside0 (idxU j (l.drop j) = idxU 0 l) ∧ wr = w) (fun i _ => l.length - (intOf i).toNat)
  case atStart => exact ⟨0, Nat.zero_le _, rfl, ⟨rfl⟩, rfl⟩
  case round =>
    obtain ⟨j, hj, rfl, HI, hw⟩ := hrel
    obtain rfl : w = wr := hw.symm
    by_cases hlt : j < l.length
    · have x0 := HC.out j hlt
      have hI := HI.out
      rw [List.drop_eq_getElem_cons hlt] at hI
      simp only [idxU] at hI
      have hd := HD.out l[j]
      generalize l[j] = x at x0 hI hd
      have HX := Aside0.mk hI
      by_cases hx : x = 48
      · have hI := HX.out
        rw [if_pos hx] at hI
        rw [decide_eq_true hx] at hd
        have HI := Aside0.mk hI
        have HD2 := Aside0.mk hd
        clear hI hx hd HX
        go_wp2_with fail
        refine HD2.out.mono ?_
        rintro e w1 ⟨rfl, rfl⟩
        go_wp2_with fail
        go_roundw
        case rel => exact ⟨j + 1, by omega, by go_num, HI, trivial⟩
        case measure => simp [intOf]; omega
      · have hI := HX.out
        rw [if_neg hx] at hI
        rw [decide_eq_false hx] at hd
        have HI := Aside0.mk hI
        have HD2 := Aside0.mk hd
        clear hI hx hd HX
        go_wp2_with fail
        refine HD2.out.mono ?_
        rintro e w1 ⟨rfl, rfl⟩
        go_wp2_with fail
        go_ret
        exact ⟨by rw [← HI.out]; rfl, rfl⟩
    · have hI := HI.out
      rw [List.drop_of_length_le (by omega)] at hI
      have HI' := Aside0.mk hI
      clear hI HI
      go_wp2_with fail
      go_ret
      exact ⟨by rw [← HI'.out]; rfl, rfl⟩
end Go.Proofs.YtjllbkeobibnkaaDoor.Q

namespace Go.Proofs.YtjllbkeobibnkaaDoor.Q
open Go Go.Proofs Go.Shelf Go.RowKit Go.Proofs.YtjllbkeobibnkaaDoorK Go.Proofs.YtjllbkeobibnkaaDoorW.PrintWords Go.Proofs.YtjllbkeobibnkaaDoorW.PrintLast Go.Proofs.YtjllbkeobibnkaaDoorW.PrintMore
set_option linter.unusedSimpArgs false
set_option linter.unusedVariables false
def digs (n : Nat) : List UInt8 := [UInt8.ofNat (48 + n / 100), UInt8.ofNat (48 + n / 10 % 10), UInt8.ofNat (48 + n % 10)]
theorem u8n (n : Nat) (h : n < 256) : ((UInt8.ofNat n).toNat : Int) = (n : Int) := by
  have h2 : (UInt8.ofNat n).toNat = n := Nat.mod_eq_of_lt h
  rw [h2]
theorem u8ne (n : Nat) (h : n < 256) (e : UInt8.ofNat n = 48) : n = 48 := by
  have h1 := congrArg UInt8.toNat e
  have h2 : (UInt8.ofNat n).toNat = n := Nat.mod_eq_of_lt h
  have h3 : (48 : UInt8).toNat = 48 := rfl
  omega
theorem three (x y z : UInt8) (h : x = 48 → y = 48 → z = 48 → False) : (idxU 0 [x, y, z] = 0 ∧ [x, y, z].dropWhile (· == 48) = [x, y, z]) ∨ (idxU 0 [x, y, z] = 1 ∧ [x, y, z].dropWhile (· == 48) = [y, z]) ∨ (idxU 0 [x, y, z] = 2 ∧ [x, y, z].dropWhile (· == 48) = [z]) := by
  by_cases c0 : x = 48
  · by_cases c1 : y = 48
    · have c2 : ¬ z = 48 := fun c2 => h c0 c1 c2
      have b2 : (z == 48) = false := beq_eq_false_iff_ne.mpr c2
      subst c0 c1
      exact .inr (.inr ⟨by simp [idxU, c2], by simp [List.dropWhile, b2]⟩)
    · have b1 : (y == 48) = false := beq_eq_false_iff_ne.mpr c1
      subst c0
      exact .inr (.inl ⟨by simp [idxU, c1], by simp [List.dropWhile, b1]⟩)
  · have b0 : (x == 48) = false := beq_eq_false_iff_ne.mpr c0
    exact .inl ⟨by simp [idxU, c0], by simp [List.dropWhile, b0]⟩
theorem bstr_event {P : Program} {ops : Array Oper} {rest : List Oper} {o : Oper} {a : Act} {W : World} {Q : Exit → Act → World → Prop} (hgd : o.guard = none) {src dst e : TypeId} {x : Operand} (ho : o.op = .convert src dst x) {ad : Addr} {cap : Nat} (l : List UInt8) (hc : ∀ j (hj : j < l.length), W.cell? (ad.add j) = some (.int .u8 (l[j].toNat : Int))) (hx : a.eval x = .slice (some ad) l.length cap)
    (hs : P.underlying src = some (.slice e)) (he : P.underlying e = some (.int .u8)) (hd : P.underlying dst = some .string)
    (h : wpList P ops Q rest (a.put o.dst (.string ⟨l.toArray⟩)) W) : wpList P ops Q (o :: rest) a W := by
  have hr := run_convert_bytes_back (P := P) W src dst e ad cap l hs he hd hc
  exact Kd.event_run hgd (by unfold execOp; simp only [ho, hx, Sem.run_bind, hr, Result.andThen_ok, Sem.run_pure]) h
/-- The digits of n. -/
def decB (n : Nat) : ByteArray := ⟨((digs n).dropWhile (· == 48)).toArray⟩
set_option maxRecDepth 100000 in
theorem decimal_any (w : World) (n : Nat) (h1 : 1 ≤ n) (h2 : n ≤ 999) : Calls Tryd.prog 78 #[.int .i64 (n : Int)] w fun e w' => e = .returned (.string (decB n)) ∧ Below w.heap.size w w' := by
  obtain ⟨x, hx⟩ : ∃ x, UInt8.ofNat (48 + n / 100) = x := ⟨_, rfl⟩
  obtain ⟨y, hy⟩ : ∃ x, UInt8.ofNat (48 + n / 10 % 10) = x := ⟨_, rfl⟩
  obtain ⟨z, hz⟩ : ∃ x, UInt8.ofNat (48 + n % 10) = x := ⟨_, rfl⟩
  have hdg : digs n = [x, y, z] := by unfold digs; rw [hx, hy, hz]
  have q0 : (x.toNat : Int) = 48 + (n : Int) / 100 := by rw [← hx, u8n _ (by omega)]; omega
  have q1 : (y.toNat : Int) = 48 + (n : Int) / 10 % 10 := by rw [← hy, u8n _ (by omega)]; omega
  have q2 : (z.toNat : Int) = 48 + (n : Int) % 10 := by rw [← hz, u8n _ (by omega)]; omega
  have e0 : x = 48 → 48 + n / 100 = 48 := fun e => u8ne (48 + n / 100) (by omega) (by rw [hx, e])
  have e1 : y = 48 → 48 + n / 10 % 10 = 48 := fun e => u8ne (48 + n / 10 % 10) (by omega) (by rw [hy, e])
  have e2 : z = 48 → 48 + n % 10 = 48 := fun e => u8ne (48 + n % 10) (by omega) (by rw [hz, e])
  have hk : (idxU 0 [x, y, z] = 0 ∧ decB n = ⟨#[x, y, z]⟩) ∨ (idxU 0 [x, y, z] = 1 ∧ decB n = ⟨#[y, z]⟩) ∨ (idxU 0 [x, y, z] = 2 ∧ decB n = ⟨#[z]⟩) := by
    have h3 := three x y z (fun a b c => by have := e0 a; have := e1 b; have := e2 c; omega)
    unfold decB
    rw [hdg]
    rcases h3 with ⟨h, e⟩ | ⟨h, e⟩ | ⟨h, e⟩
    · exact .inl ⟨h, by rw [e]⟩
    · exact .inr (.inl ⟨h, by rw [e]⟩)
    · exact .inr (.inr ⟨h, by rw [e]⟩)
  have HI := Aside0.mk (fun W b c hc => idxu_any W b c [x, y, z] (by simp) hc)
  have HQ := Aside0.mk (And.intro q0 (And.intro q1 q2))
  generalize idxU 0 [x, y, z] = k at HI hk
  have hcells : ∀ (W : World) (b : Nat), W.heap[b]? = some (.cells #[.int .u8 (48 + (n : Int) / 100), .int .u8 (48 + (n : Int) / 10 % 10), .int .u8 (48 + (n : Int) % 10)] 5 (0, 0)) → ∀ j (h : j < [x, y, z].length), W.cell? ⟨b, j, none⟩ = some (.int .u8 ([x, y, z][j].toNat : Int)) := fun W b hb j hj => by
    rw [blk_cell hb]
    have hj3 : j < 3 := hj
    rcases (show j = 0 ∨ j = 1 ∨ j = 2 by omega) with rfl | rfl | rfl
    · show some _ = some (Value.int .u8 (x.toNat : Int)); rw [q0]; rfl
    · show some _ = some (Value.int .u8 (y.toNat : Int)); rw [q1]; rfl
    · show some _ = some (Value.int .u8 (z.toNat : Int)); rw [q2]; rfl
  have HCE := Aside0.mk hcells
  clear hcells e0 e1 e2 q0 q1 q2 hdg hx hy hz
  rcases hk with ⟨rfl, hr⟩ | ⟨rfl, hr⟩ | ⟨rfl, hr⟩
  all_goals
    rw [hr]
    have HR := Aside0.mk hr
    clear hr
    go_enter Tryd.func78, Tryd.ntmps78
    go_wp2_with fail
    refine (HI.out _ _ _ (HCE.out _ _ held)).mono ?_
    rintro e w1 ⟨rfl, hw⟩
    subst hw
  · go_wp2_with (refine bstr_event rfl (src := 121) (dst := 9) (e := 5) rfl [x, y, z] (fun j hj => by rw [Addr.add_lit, Nat.zero_add]; exact HCE.out _ _ held j hj) rfl Tryd.underlying121 Tryd.underlying5 Tryd.underlying9 ?_)
    go_ret
    exact ⟨rfl, bel _ _⟩
  · go_wp2_with (refine bstr_event rfl (src := 121) (dst := 9) (e := 5) rfl [y, z] (fun j hj => by rw [Addr.add_lit, Nat.add_comm]; exact HCE.out _ _ held (j + 1) (Nat.succ_lt_succ hj)) rfl Tryd.underlying121 Tryd.underlying5 Tryd.underlying9 ?_)
    go_ret
    exact ⟨rfl, bel _ _⟩
  · go_wp2_with (refine bstr_event rfl (src := 121) (dst := 9) (e := 5) rfl [z] (fun j hj => by rw [Addr.add_lit, Nat.add_comm]; exact HCE.out _ _ held (j + 2) (Nat.succ_lt_succ (Nat.succ_lt_succ hj))) rfl Tryd.underlying121 Tryd.underlying5 Tryd.underlying9 ?_)
    go_ret
    exact ⟨rfl, bel _ _⟩
end Go.Proofs.YtjllbkeobibnkaaDoor.Q

namespace Go.Proofs.YtjllbkeobibnkaaDoor.Q
open Go Go.Proofs Go.RowKit Go.Lib Go.Proofs.YtjllbkeobibnkaaDoorP Go.Proofs.YtjllbkeobibnkaaDoorK
theorem names_sub (l : List UInt8) : ∀ n ∈ names l, ∀ c ∈ n, c ∈ l := by
  induction l with
  | nil => intro n hn; simp [names] at hn; simp [hn]
  | cons c l ih =>
    intro n hn d hd
    unfold names at hn
    split at hn
    · rcases List.mem_cons.1 hn with e | hn
      · rw [e] at hd; simp at hd
      · exact List.mem_cons_of_mem _ (ih n hn d hd)
    · split at hn
      · rename_i he
        exact absurd he (names_ne l)
      · rename_i m ms he
        rcases List.mem_cons.1 hn with e | hn
        · rw [e] at hd
          rcases List.mem_cons.1 hd with e2 | hd
          · rw [e2]; exact List.mem_cons_self
          · exact List.mem_cons_of_mem _ (ih m (by rw [he]; exact List.mem_cons_self) d hd)
        · exact List.mem_cons_of_mem _ (ih n (by rw [he]; exact List.mem_cons_of_mem _ hn) d hd)
theorem kindL_point (n : List UInt8) (h : kindL n = 2) : 46 ∈ n := by
  apply Classical.byContradiction
  intro hn
  have hi := index_free 46 n hn
  have hc : cut n [46] = (n, [], false) := by unfold cut; rw [hi, if_neg (by decide)]
  unfold kindL at h
  rw [hc] at h
  split at h
  · cases h
  · split at h
    · cases h
    · cases h
theorem kindS_names (p : ByteArray) (h : kindS p = (2, 0)) : p.size ≤ 96 ∧ kindsL (names p.data.toList) 0 = some 2 ∧ (names p.data.toList).length ≤ 8 := by
  unfold kindS at h
  split at h
  · cases h
  · split at h
    · cases h
    · split at h
      · cases h
      · rename_i h1 h2 k hk
        split at h
        · cases h
        · injection h with h3
          subst h3
          exact ⟨by omega, hk, by omega⟩
theorem file_last (p : ByteArray) (h : kindS p = (2, 0)) : ∃ n, (names p.data.toList).getLast? = some n ∧ kindL n = 2 := by
  obtain ⟨_, h1, _⟩ := kindS_names p h
  have h2 := kindsL_last _ _ _ h1
  cases hg : (names p.data.toList).getLast? with
  | none => exact absurd (List.getLast?_eq_none_iff.1 hg) (names_ne _)
  | some n => rw [hg] at h2; exact ⟨n, rfl, h2.symm⟩
theorem file_point (p : ByteArray) (h : kindS p = (2, 0)) : 46 ∈ p.data.toList := by
  obtain ⟨n, h1, h2⟩ := file_last p h
  exact names_sub _ n (List.mem_of_getLast? h1) _ (kindL_point n h2)
theorem last_point (p : ByteArray) (h : kindS p = (2, 0)) : ∃ i : Nat, i < p.size ∧ lastIndexByte p 46 = (i : Int) ∧ ((p.data[i]!).toNat : Int) = 46 ∧ ∀ j, i < j → j < p.size → ((p.data[j]!).toNat : Int) ≠ 46 := by
  rcases lastIndexByte_spec p 46 with ⟨_, hn⟩ | hi
  · obtain ⟨j, hj, he⟩ := List.mem_iff_getElem.1 (file_point p h)
    exfalso
    have hj' : j < p.size := hj
    refine hn j hj' ?_
    rw [getElem!_pos p.data j hj]
    have : p.data[j] = 46 := by rw [← he]; rfl
    rw [this]; rfl
  · exact hi
end Go.Proofs.YtjllbkeobibnkaaDoor.Q

namespace Go.Proofs.YtjllbkeobibnkaaDoor.Q
open Go.RowKit Go.Proofs.YtjllbkeobibnkaaDoorW.PrintWords Go.Proofs.YtjllbkeobibnkaaDoorW.PrintLast Go.Proofs.YtjllbkeobibnkaaDoorW.PrintMore Go.Proofs.YtjllbkeobibnkaaDoorK
attribute [local go_sem] max2_int min2_int max_two min_two max_three min_three max_four min_four   -- for this text's walks alone
attribute [local go_sem ↓] Go.Proofs.YtjllbkeobibnkaaDoorK.isSome_setCell
set_option linter.unusedVariables false
set_option linter.unusedSimpArgs false

def path_is.f (a0 : ByteArray) (a1 : Int) : Option (Bool) := (path_Kind.f a0).bind fun bt129 => (if bt129.2 = 0 then (if a1 = 0 then (some true) else (some (bt129.1 == a1))) else (some false))
set_option maxHeartbeats 8000000 in
set_option maxRecDepth 100000 in
theorem path_is.calls (a0 : ByteArray) (a1 : Int) (r : Bool) (w : World) (h : path_is.f a0 a1 = some r) :
    Calls Tryd.prog 75 #[.string a0, .int .i64 a1] w fun e w' => e = .returned (.bool r) ∧ Below w.heap.size w w' := by
  have HB := Aside0.mk (Below.refl w.heap.size w)
  have H : ((path_Kind.f a0).bind fun bt129 => (if bt129.2 = 0 then (if a1 = 0 then (some true) else (some (bt129.1 == a1))) else (some false))) = some r := h
  clear h
  replace H := Option.bind_eq_some_iff.mp H
  obtain ⟨⟨t129, t130⟩, A30, H⟩ := H
  replace H : (if t130 = 0 then (if a1 = 0 then (some true) else (some (t129 == a1))) else (some false)) = some r := H
  have A3 := Aside0.mk A30
  clear A30
  by_cases c4 : t130 = 0
  · rw [if_pos c4] at H
    have c4b0 : (t130 == 0) = true := beq_iff_eq.mpr c4
    have c4b1 : (t130 != 0) = false := bne_eq_false_iff_eq.mpr c4
    clear c4
    by_cases c5 : a1 = 0
    · rw [if_pos c5] at H
      have c5b0 : (a1 == 0) = true := beq_iff_eq.mpr c5
      have c5b1 : (a1 != 0) = false := bne_eq_false_iff_eq.mpr c5
      clear c5
      obtain rfl := Option.some.inj H
      go_enter Tryd.func75, Tryd.ntmps75
      go_wp2_with (first | ((with_reducible refine gate_callee (f := 47) rfl ?_); refine goesL_ (some 9) rfl rfl Tryd.func47 (by kernel_rfl) rfl #[.string a0] rfl (by (try simp only [List.map_toArray, List.map_cons, List.map_nil]); first | done | rfl | (simp only [List.length_drop, List.length_take]; rfl)) ?_; (with_reducible refine (path_Kind.calls a0 t129 t130 _ A3.out).mono ?_); rintro e w6 ⟨rfl, hb⟩; refine ⟨_, rfl, ?_⟩; have n0_ := Aside0.mk (below_step (belU HB.out) hb); clear HB; have HB := n0_; clear n0_; (try clear hb); (try clear hb2); (try clear hk); (try clear hi)))
      go_ret
      exact ⟨by first | rfl | (simp [errW_none, errW_some] <;> rfl) | (simp [*, errW_none, errW_some] <;> rfl), belU HB.out⟩
    · rw [if_neg c5] at H
      have c5b0 : (a1 == 0) = false := beq_eq_false_iff_ne.mpr c5
      have c5b1 : (a1 != 0) = true := bne_iff_ne.mpr c5
      obtain rfl := Option.some.inj H
      go_enter Tryd.func75, Tryd.ntmps75
      go_wp2_with (first | ((with_reducible refine gate_callee (f := 47) rfl ?_); refine goesL_ (some 9) rfl rfl Tryd.func47 (by kernel_rfl) rfl #[.string a0] rfl (by (try simp only [List.map_toArray, List.map_cons, List.map_nil]); first | done | rfl | (simp only [List.length_drop, List.length_take]; rfl)) ?_; (with_reducible refine (path_Kind.calls a0 t129 t130 _ A3.out).mono ?_); rintro e w7 ⟨rfl, hb⟩; refine ⟨_, rfl, ?_⟩; have n0_ := Aside0.mk (below_step (belU HB.out) hb); clear HB; have HB := n0_; clear n0_; (try clear hb); (try clear hb2); (try clear hk); (try clear hi)))
      go_ret
      exact ⟨by first | rfl | (simp [errW_none, errW_some] <;> rfl) | (simp [*, errW_none, errW_some] <;> rfl), belU HB.out⟩
  · rw [if_neg c4] at H
    have c4b0 : (t130 == 0) = false := beq_eq_false_iff_ne.mpr c4
    have c4b1 : (t130 != 0) = true := bne_iff_ne.mpr c4
    obtain rfl := Option.some.inj H
    go_enter Tryd.func75, Tryd.ntmps75
    go_wp2_with (first | ((with_reducible refine gate_callee (f := 47) rfl ?_); refine goesL_ (some 9) rfl rfl Tryd.func47 (by kernel_rfl) rfl #[.string a0] rfl (by (try simp only [List.map_toArray, List.map_cons, List.map_nil]); first | done | rfl | (simp only [List.length_drop, List.length_take]; rfl)) ?_; (with_reducible refine (path_Kind.calls a0 t129 t130 _ A3.out).mono ?_); rintro e w8 ⟨rfl, hb⟩; refine ⟨_, rfl, ?_⟩; have n0_ := Aside0.mk (below_step (belU HB.out) hb); clear HB; have HB := n0_; clear n0_; (try clear hb); (try clear hb2); (try clear hk); (try clear hi)))
    go_ret
    exact ⟨by first | rfl | (simp [errW_none, errW_some] <;> rfl) | (simp [*, errW_none, errW_some] <;> rfl), belU HB.out⟩

end Go.Proofs.YtjllbkeobibnkaaDoor.Q

namespace Go.Proofs.YtjllbkeobibnkaaDoor.Q
open Go.RowKit Go.Proofs.YtjllbkeobibnkaaDoorW.PrintWords Go.Proofs.YtjllbkeobibnkaaDoorW.PrintLast Go.Proofs.YtjllbkeobibnkaaDoorW.PrintMore Go.Proofs.YtjllbkeobibnkaaDoorK
attribute [local go_sem] max2_int min2_int max_two min_two max_three min_three max_four min_four   -- for this text's walks alone
attribute [local go_sem ↓] Go.Proofs.YtjllbkeobibnkaaDoorK.isSome_setCell
set_option linter.unusedVariables false
set_option linter.unusedSimpArgs false

def path_sure.f (a0 : ByteArray) : Option (ByteArray × Int) := (path_Kind.f a0).bind fun bt132 => (if bt132.2 = 0 then (some (a0, 0)) else (some ((⟨#[]⟩ : ByteArray), bt132.2)))
set_option maxHeartbeats 8000000 in
set_option maxRecDepth 100000 in
theorem path_sure.calls (a0 : ByteArray) (r1 : ByteArray) (r2 : Int) (w : World) (h : path_sure.f a0 = some (r1, r2)) :
    Calls Tryd.prog 77 #[.string a0] w fun e w' => e = .returned (.tuple #[.string r1, .int .i64 r2]) ∧ Below w.heap.size w w' := by
  have HB := Aside0.mk (Below.refl w.heap.size w)
  have H : ((path_Kind.f a0).bind fun bt132 => (if bt132.2 = 0 then (some (a0, 0)) else (some ((⟨#[]⟩ : ByteArray), bt132.2)))) = some (r1, r2) := h
  clear h
  replace H := Option.bind_eq_some_iff.mp H
  obtain ⟨⟨t132, t133⟩, A20, H⟩ := H
  replace H : (if t133 = 0 then (some (a0, 0)) else (some ((⟨#[]⟩ : ByteArray), t133))) = some (r1, r2) := H
  have A2 := Aside0.mk A20
  clear A20
  by_cases c3 : t133 = 0
  · rw [if_pos c3] at H
    have c3b0 : (t133 == 0) = true := beq_iff_eq.mpr c3
    have c3b1 : (t133 != 0) = false := bne_eq_false_iff_eq.mpr c3
    clear c3
    simp only [Option.some.injEq, Prod.mk.injEq] at H
    obtain ⟨rfl, rfl⟩ := H
    go_enter Tryd.func77, Tryd.ntmps77
    go_wp2_with (first | ((with_reducible refine gate_callee (f := 47) rfl ?_); refine goesL_ (some 8) rfl rfl Tryd.func47 (by kernel_rfl) rfl #[.string a0] rfl (by (try simp only [List.map_toArray, List.map_cons, List.map_nil]); first | done | rfl | (simp only [List.length_drop, List.length_take]; rfl)) ?_; (with_reducible refine (path_Kind.calls a0 t132 t133 _ A2.out).mono ?_); rintro e w4 ⟨rfl, hb⟩; refine ⟨_, rfl, ?_⟩; have n0_ := Aside0.mk (below_step (belU HB.out) hb); clear HB; have HB := n0_; clear n0_; (try clear hb); (try clear hb2); (try clear hk); (try clear hi)))
    go_ret2
    exact ⟨by first | rfl | (simp [errW_none, errW_some] <;> rfl) | (simp [*, errW_none, errW_some] <;> rfl), belU HB.out⟩
  · rw [if_neg c3] at H
    have c3b0 : (t133 == 0) = false := beq_eq_false_iff_ne.mpr c3
    have c3b1 : (t133 != 0) = true := bne_iff_ne.mpr c3
    simp only [Option.some.injEq, Prod.mk.injEq] at H
    obtain ⟨rfl, rfl⟩ := H
    go_enter Tryd.func77, Tryd.ntmps77
    go_wp2_with (first | ((with_reducible refine gate_callee (f := 47) rfl ?_); refine goesL_ (some 8) rfl rfl Tryd.func47 (by kernel_rfl) rfl #[.string a0] rfl (by (try simp only [List.map_toArray, List.map_cons, List.map_nil]); first | done | rfl | (simp only [List.length_drop, List.length_take]; rfl)) ?_; (with_reducible refine (path_Kind.calls a0 t132 t133 _ A2.out).mono ?_); rintro e w5 ⟨rfl, hb⟩; refine ⟨_, rfl, ?_⟩; have n0_ := Aside0.mk (below_step (belU HB.out) hb); clear HB; have HB := n0_; clear n0_; (try clear hb); (try clear hb2); (try clear hk); (try clear hi)))
    go_ret2
    exact ⟨by first | rfl | (simp [errW_none, errW_some] <;> rfl) | (simp [*, errW_none, errW_some] <;> rfl), belU HB.out⟩

end Go.Proofs.YtjllbkeobibnkaaDoor.Q

namespace Go.Proofs.YtjllbkeobibnkaaDoor.Q
open Go Go.Proofs Go.Shelf Go.RowKit Go.Lib Go.Proofs.YtjllbkeobibnkaaDoorP Go.Proofs.YtjllbkeobibnkaaDoorK Go.Proofs.YtjllbkeobibnkaaDoorW.PrintWords Go.Proofs.YtjllbkeobibnkaaDoorW.PrintLast Go.Proofs.YtjllbkeobibnkaaDoorW.PrintMore
set_option linter.unusedSimpArgs false
set_option linter.unusedVariables false
/-- The name of a copy. -/
def cpName (p : ByteArray) (n : Nat) : ByteArray := p.extract 0 (lastIndexByte p 46).toNat ++ ⟨#[126]⟩ ++ decB n ++ p.extract (lastIndexByte p 46).toNat p.size
def cpK (p : ByteArray) (n : Nat) : ByteArray × Int := if kindS p = (2, 0) then (if (kindS (cpName p n)).2 = 0 then (cpName p n, 0) else (⟨#[]⟩, (kindS (cpName p n)).2)) else (⟨#[]⟩, 2)
theorem dec_size (n : Nat) : (decB n).size ≤ 3 := by
  show ((digs n).dropWhile (· == 48)).toArray.size ≤ 3
  rw [List.size_toArray]
  exact (List.dropWhile_sublist _).length_le
theorem cp_size (p : ByteArray) (n : Nat) : (cpName p n).size ≤ 2 * p.size + 4 := by
  have := dec_size n
  unfold cpName
  rw [ByteArray.size_append, ByteArray.size_append, ByteArray.size_append, ByteArray.size_extract, ByteArray.size_extract]
  have h1 : (⟨#[126]⟩ : ByteArray).size = 1 := rfl
  omega
theorem is2_any (w : World) (p : ByteArray) (hp : p.size ≤ 65536) : Calls Tryd.prog 75 #[.string p, .int .i64 2] w fun e w' => e = .returned (.bool (decide (kindS p = (2, 0)))) ∧ Below w.heap.size w w' := by
  refine path_is.calls p 2 _ w ?_
  unfold path_is.f path_Kind.f
  rw [if_pos hp, Option.bind_some]
  generalize kindS p = r
  obtain ⟨k, e⟩ := r
  by_cases h : e = 0
  · subst h
    rw [if_pos rfl, if_neg (by decide)]
    by_cases h2 : k = 2
    · subst h2; rfl
    · rw [decide_eq_false (fun e2 => h2 (by injection e2)), beq_eq_false_iff_ne.mpr h2]
  · rw [if_neg h, decide_eq_false (fun e2 => h (by injection e2))]
set_option maxRecDepth 100000 in
set_option maxHeartbeats 2000000 in
theorem pcopy_any (p : ByteArray) (hp : p.size ≤ 32000) : ∀ W (n : Nat), 1 ≤ n → n ≤ 999 → Calls Tryd.prog 56 #[.string p, .int .i64 (n : Int)] W fun e w' => e = .returned (.tuple #[.string (cpK p n).1, .int .i64 (cpK p n).2]) ∧ Below W.heap.size W w' := by
  intro w n h1 h2
  have HI := Aside0.mk (fun W => is2_any W p (by omega))
  unfold cpK
  by_cases hk : kindS p = (2, 0)
  · rw [if_pos hk]
    have hz : 0 ≤ lastIndexByte p 46 ∧ lastIndexByte p 46 ≤ (p.size : Int) := by
      obtain ⟨i, h1, h2, _⟩ := last_point p hk
      rw [h2]; omega
    have hsz : (cpName p n).size ≤ 65536 := by have := cp_size p n; omega
    have hks := fun W => Kind_any W (cpName p n) hsz
    have hsu : ∀ W, Calls Tryd.prog 77 #[.string (cpName p n)] W fun e w' => e = .returned (.tuple #[.string (if (kindS (cpName p n)).2 = 0 then (cpName p n, 0) else (⟨#[]⟩, (kindS (cpName p n)).2)).1, .int .i64 (if (kindS (cpName p n)).2 = 0 then (cpName p n, (0 : Int)) else (⟨#[]⟩, (kindS (cpName p n)).2)).2]) ∧ Below W.heap.size W w' := fun W => by
      refine path_sure.calls (cpName p n) _ _ W ?_
      unfold path_sure.f path_Kind.f
      rw [if_pos hsz, Option.bind_some]
      split <;> rfl
    generalize (if (kindS (cpName p n)).2 = 0 then (cpName p n, (0 : Int)) else (⟨#[]⟩, (kindS (cpName p n)).2)) = u at hsu ⊢
    have hli := fun W => Any.strings_LastIndexByte layLastIdx p 46 (by omega) W
    change ∀ W, Calls Tryd.prog 76 _ W _ at hli
    have hde := fun W => decimal_any W n h1 h2
    have HS := Aside0.mk hsu
    have HL := Aside0.mk hli
    have HD := Aside0.mk hde
    rw [decide_eq_true hk] at HI
    clear hk hks hsu hli hde hsz
    go_enter Tryd.func56, Tryd.ntmps56
    go_wp2_with fail
    refine (HI.out _).mono ?_
    rintro r1 w1 ⟨rfl, hb⟩
    have p1 := prev_call hb
    clear hb
    go_wp2_with fail
    refine (HL.out _).mono ?_
    rintro r2 w2 ⟨rfl, hw2⟩
    subst hw2
    obtain ⟨z, hzz⟩ : ∃ z : Nat, lastIndexByte p 46 = (z : Int) := ⟨(lastIndexByte p 46).toNat, by omega⟩
    have hcn : cpName p n = p.extract 0 z ++ ⟨#[126]⟩ ++ decB n ++ p.extract z p.size := by unfold cpName; rw [hzz]; rfl
    rw [hzz] at hz ⊢
    have hz2 : z ≤ p.size := by omega
    clear hz
    go_wp2_with fail
    have hdz := dec_size n
    have b1 : ¬ (9223372036854775807 < z + 1) := by omega
    have b2 : ¬ (9223372036854775807 < z + 1 + (decB n).size) := by omega
    have b3 : ¬ (9223372036854775807 < z + 1 + (decB n).size + (p.size - z)) := by omega
    go_region_held3 (fun _ => True) (first | exact trivial)
      (first | (go_at_call 78; refine (HD.out _).mono ?_; rintro r3 w3 ⟨rfl, hb⟩; have p3 := prev_call hb; clear hb) | (go_at_call 77; rw [← hcn]; refine (HS.out _).mono ?_; rintro r4 w4 ⟨rfl, hb⟩; have p4 := prev_call hb; clear hb))
    go_wp2_with fail
    go_ret2
    exact ⟨rfl, bel _ _⟩
  · rw [if_neg hk]
    rw [decide_eq_false hk] at HI
    clear hk
    go_enter Tryd.func56, Tryd.ntmps56
    go_wp2_with fail
    refine (HI.out _).mono ?_
    rintro r1 w1 ⟨rfl, hb⟩
    have p1 := prev_call hb
    clear hb
    go_wp2_with fail
    go_ret2
    exact ⟨rfl, bel _ _⟩
end Go.Proofs.YtjllbkeobibnkaaDoor.Q

namespace Go.Proofs.YtjllbkeobibnkaaDoor.Q
open Go Go.Proofs Go.Shelf Go.RowKit Go.Lib Go.Sort Go.Proofs.YtjllbkeobibnkaaDoorP Go.Proofs.YtjllbkeobibnkaaDoorK Go.Proofs.YtjllbkeobibnkaaDoorW.PrintWords Go.Proofs.YtjllbkeobibnkaaDoorW.PrintLast Go.Proofs.YtjllbkeobibnkaaDoorW.PrintMore
set_option linter.unusedSimpArgs false
set_option linter.unusedVariables false
def planStep (s : S24) (inn : List ByteArray) (st : List S33 × List ByteArray) (p : ByteArray) : List S33 × List ByteArray :=
  if hasS inn p = false then st
  else if (stepS (atS s p) p).f0 = 7 then
    (if (freeN (cpK p) (takenS s st.2) 999 1).2 = true then (st.1 ++ [{ stepS (atS s p) p with f3 := (freeN (cpK p) (takenS s st.2) 999 1).1 }, ⟨1, 0, (freeN (cpK p) (takenS s st.2) 999 1).1, eB⟩], st.2 ++ [(freeN (cpK p) (takenS s st.2) 999 1).1])
     else (st.1 ++ [⟨8, (stepS (atS s p) p).f1, p, eB⟩], st.2))
  else if (stepS (atS s p) p).f0 = 0 then st
  else (st.1 ++ [stepS (atS s p) p], st.2)
def planF (s : S24) (inn : List ByteArray) : List S33 × List ByteArray := (pathsS s).foldl (planStep s inn) ([], [])
def planS (s : S24) (inn : List ByteArray) : List S33 × Int := if checkS s = 0 ∧ mayS inn = true then ((planF s inn).1, 0) else ([], 2)
theorem stepS_zero (x : S65) (p : ByteArray) : (stepS x p).f0 = 0 → stepS x p = z33 := by
  unfold stepS
  split
  all_goals (try (split))
  all_goals first
    | exact fun _ => rfl
    | (intro h; simp at h)
instance : Go.Proofs.YtjllbkeobibnkaaDoorK.NotIn 41 (9 :: Kd.string.E) := ⟨by decide⟩
instance : Go.Proofs.YtjllbkeobibnkaaDoorK.NotIn 33 (9 :: Kd.string.E) := ⟨by decide⟩
instance : Go.Proofs.YtjllbkeobibnkaaDoorK.NotIn 24 (9 :: Kd.string.E) := ⟨by decide⟩
instance : Go.Proofs.YtjllbkeobibnkaaDoorK.NotIn 41 (33 :: k33.E) := ⟨by decide⟩
instance : Go.Proofs.YtjllbkeobibnkaaDoorK.NotIn 24 (33 :: k33.E) := ⟨by decide⟩
theorem paths_len {s : S24} (h : tinyS s = true) : (pathsS s).length ≤ 3000 := by
  obtain ⟨t1, t2, t3⟩ := tinyS_open h
  unfold pathsS
  have a := mergeL_len (mergeL (pathsK s.f0) (pathsK s.f1)) (pathsK s.f2)
  have b := mergeL_len (pathsK s.f0) (pathsK s.f1)
  have a1 := (fewK_open t1).1
  have a2 := (fewK_open t2).1
  have a3 := (fewK_open t3).1
  unfold pathsK at a b ⊢
  simp only [List.length_map] at a b ⊢
  omega
theorem paths_sz {s : S24} (h : tinyS s = true) : ∀ p ∈ pathsS s, p.size ≤ 32000 := by
  obtain ⟨t1, t2, t3⟩ := tinyS_open h
  intro p hp
  unfold pathsS at hp
  rcases mergeL_mem _ _ p hp with hp | hp
  · rcases mergeL_mem _ _ p hp with hp | hp
    · obtain ⟨k, hk, rfl⟩ := List.mem_map.1 hp
      exact (fewK_open t1).2 k hk
    · obtain ⟨k, hk, rfl⟩ := List.mem_map.1 hp
      exact (fewK_open t2).2 k hk
  · obtain ⟨k, hk, rfl⟩ := List.mem_map.1 hp
    exact (fewK_open t3).2 k hk
end Go.Proofs.YtjllbkeobibnkaaDoor.Q

namespace Go.Proofs.YtjllbkeobibnkaaDoor.Q
open Go Go.Proofs Go.RowKit Go.Lib Go.Sort Go.Proofs.YtjllbkeobibnkaaDoorP Go.Proofs.YtjllbkeobibnkaaDoorK
set_option linter.unusedVariables false
set_option linter.unusedSimpArgs false
/-- What all sides have of a path. -/
def gK (s : S24) (p : ByteArray) : Option S51 × Option S51 × Option S51 := (getK s.f0 p, getK s.f1 p, getK s.f2 p)
def stG (g : Option S51 × Option S51 × Option S51) : S65 :=
  { a := g.1.getD z51, l := g.2.1.getD z51, r := g.2.2.getD z51, inA := g.1.isSome, inL := g.2.1.isSome, inR := g.2.2.isSome
    here := (g.2.1.isSome != g.1.isSome) || (g.2.1.isSome && !alikeS (g.1.getD z51) (g.2.1.getD z51))
    there := (g.2.2.isSome != g.1.isSome) || (g.2.2.isSome && ((g.1.getD z51).f0 != (g.2.2.getD z51).f0)) }
theorem find_gd (l : List S58) (p : ByteArray) : findS l p = ((getK l p).getD z51, (getK l p).isSome) := by
  rw [find_get]
  cases getK l p <;> rfl
theorem atS_st (s : S24) (p : ByteArray) : atS s p = stG (gK s p) := by
  unfold atS stG gK
  simp only [find_gd]
theorem hasK_st (s : S24) (p : ByteArray) : hasK s p = ((gK s p).1.isSome || ((gK s p).2.1.isSome || (gK s p).2.2.isSome)) := by
  unfold hasK
  rw [atS_st]
  rfl
def noG : Option S51 × Option S51 × Option S51 := (none, none, none)
theorem hasK_no {s : S24} {p : ByteArray} (h : hasK s p = false) : gK s p = noG := by
  rw [hasK_st] at h
  generalize gK s p = g at h ⊢
  obtain ⟨a, l, r⟩ := g
  cases a <;> cases l <;> cases r <;> first | rfl | cases h
def chunkP (s : S24) (inn ch : List ByteArray) (p : ByteArray) : List S33 × List ByteArray :=
  if hasS inn p = false then ([], [])
  else if (stepS (atS s p) p).f0 = 7 then
    (if (freeN (cpK p) (takenS s ch) 999 1).2 = true then ([{ stepS (atS s p) p with f3 := (freeN (cpK p) (takenS s ch) 999 1).1 }, ⟨1, 0, (freeN (cpK p) (takenS s ch) 999 1).1, eB⟩], [(freeN (cpK p) (takenS s ch) 999 1).1])
     else ([⟨8, (stepS (atS s p) p).f1, p, eB⟩], []))
  else if (stepS (atS s p) p).f0 = 0 then ([], [])
  else ([stepS (atS s p) p], [])
def planR (s : S24) (inn : List ByteArray) : List ByteArray → List ByteArray → List S33
  | _, [] => []
  | ch, p :: l => (chunkP s inn ch p).1 ++ planR s inn (ch ++ (chunkP s inn ch p).2) l
theorem planStep_chunk (s : S24) (inn : List ByteArray) (st : List S33 × List ByteArray) (p : ByteArray) : planStep s inn st p = (st.1 ++ (chunkP s inn st.2 p).1, st.2 ++ (chunkP s inn st.2 p).2) := by
  unfold planStep chunkP
  obtain ⟨out, ch⟩ := st
  dsimp only
  split
  · simp
  · split
    · split <;> simp
    · split <;> simp
theorem planF_R (s : S24) (inn l : List ByteArray) : ∀ out ch, (l.foldl (planStep s inn) (out, ch)).1 = out ++ planR s inn ch l := by
  induction l with
  | nil => intro out ch; simp [planR]
  | cons p l ih =>
    intro out ch
    rw [List.foldl_cons, planStep_chunk, ih]
    simp [planR]
theorem planF_eq (s : S24) (inn : List ByteArray) : (planF s inn).1 = planR s inn [] (pathsS s) := by
  unfold planF
  rw [planF_R]
  rfl
theorem stepS_path (x : S65) (p : ByteArray) : (stepS x p).f0 ≠ 0 → (stepS x p).f2 = p := by
  unfold stepS
  split
  all_goals (try (split))
  all_goals first
    | exact fun _ => rfl
    | (intro h; exact absurd rfl h)
theorem stepS_to (x : S65) (p : ByteArray) : (stepS x p).f3 = eB := by
  unfold stepS
  split
  all_goals (try (split))
  all_goals rfl
theorem stepS_8 (x : S65) (p : ByteArray) : (stepS x p).f0 ≠ 8 := by
  unfold stepS
  split
  all_goals (try (split))
  all_goals (intro h; simp [z33] at h)
/-- What a step leaves of its path. -/
def aftG (k : Int) (g : Option S51 × Option S51 × Option S51) (v : Int) : Option S51 × Option S51 × Option S51 :=
  if k = 1 then (g.2.1.map fun l => { l with f0 := v }, g.2.1.map fun l => { l with f0 := v }, g.2.1.map fun l => { l with f0 := v })
  else if k = 2 then (none, g.2.1, none)
  else if k = 3 then (g.2.2, g.2.2, g.2.2)
  else if k = 4 then (none, none, g.2.2)
  else if k = 5 then (g.2.2, g.2.1.map fun l => { l with f0 := (g.2.2.getD z51).f0 }, g.2.2)
  else if k = 6 then (none, g.2.1, g.2.2)
  else if k = 7 then (g.2.2, g.2.2, g.2.2)
  else g
/-- A path that has just what its step asks for. -/
theorem ready_in {s : S24} {x : S33} {g : Option S51 × Option S51 × Option S51} (h : readyS s x (stG g) = true) :
    ((x.f0 = 1 ∨ x.f0 = 4 ∨ x.f0 = 5 ∨ x.f0 = 7) → ∃ l, g.2.1 = some l) ∧ ((x.f0 = 2 ∨ x.f0 = 3 ∨ x.f0 = 5 ∨ x.f0 = 7) → ∃ r, g.2.2 = some r) := by
  obtain ⟨a, l, r⟩ := g
  unfold readyS heldS stG at h
  dsimp only at h ⊢
  refine ⟨fun hk => ?_, fun hk => ?_⟩
  · cases l with
    | some l => exact ⟨l, rfl⟩
    | none => rcases hk with e | e | e | e <;> rw [e] at h <;> simp at h
  · cases r with
    | some r => exact ⟨r, rfl⟩
    | none => rcases hk with e | e | e | e <;> rw [e] at h <;> simp at h
theorem gK_do {t : S24} {x : S33} (ver : Int) (h : readyS t x (stG (gK t x.f2)) = true) (q : ByteArray) :
    gK (doG t x ver (stG (gK t x.f2))) q = if q = x.f2 then aftG x.f0 (gK t x.f2) ver else if x.f0 = 7 ∧ q = x.f3 then ((gK t q).1, (gK t x.f2).2.1, (gK t q).2.2) else gK t q := by
  have hin := ready_in h
  have hk := ready_kind h
  obtain ⟨k, u, p, p3⟩ := x
  dsimp only at hin hk ⊢
  have hG : gK t p = (getK t.f0 p, getK t.f1 p, getK t.f2 p) := rfl
  have hQ : gK t q = (getK t.f0 q, getK t.f1 q, getK t.f2 q) := rfl
  rw [hG] at hin
  rw [hG, hQ]
  unfold doG aftG stG
  dsimp only
  dsimp only at hin
  clear h hG hQ
  by_cases e : q = p
  · subst e
    rw [if_pos rfl]
    rcases hk with e | e | e | e | e | e | e <;> subst e <;> simp only [gK, withS_ins, ins_get, wo_get, reduceIte, Int.reduceEq]
    · obtain ⟨l, hl⟩ := hin.1 (by decide)
      rw [hl]
      rfl
    · obtain ⟨r, hr⟩ := hin.2 (by decide)
      rw [hr]
      rfl
    · obtain ⟨l, hl⟩ := hin.1 (by decide)
      obtain ⟨r, hr⟩ := hin.2 (by decide)
      rw [hl, hr]
      rfl
    · obtain ⟨l, hl⟩ := hin.1 (by decide)
      obtain ⟨r, hr⟩ := hin.2 (by decide)
      rw [hr]
      rfl
  · rw [if_neg e]
    rcases hk with e' | e' | e' | e' | e' | e' | e' <;> subst e' <;> simp only [gK, withS_ins, ins_get, wo_get, if_neg e, reduceIte, Int.reduceEq, false_and, true_and]
    obtain ⟨l, hl⟩ := hin.1 (by decide)
    rw [hl]
    split <;> rfl
theorem ok_get {least : Int} {l : List S58} (h : OkL least l) {p : ByteArray} {a : S51} (ha : getK l p = some a) : okK least ⟨p, a⟩ = true := h.ok _ (get_mem ha)
theorem okK_iff (least : Int) (p : ByteArray) (a : S51) : okK least ⟨p, a⟩ = true ↔ kindS p = (2, 0) ∧ 0 ≤ a.f1 ∧ a.f1 ≤ 4096 ∧ least ≤ a.f0 ∧ a.f0 ≤ 1099511627776 := by
  unfold okK
  simp
theorem alike_refl (a : S51) : alikeS a a = true := by
  unfold alikeS
  simp
theorem OkL.withS {least : Int} {l : List S58} (h : OkL least l) {p : ByteArray} {a : S51} (ha : okK least ⟨p, a⟩ = true) : OkL least (withS l p a) := by rw [withS_ins]; exact h.ins ha
theorem same_of {t : S24} (h : OkS t) {T : S24} {p : ByteArray} (ho : ∀ q, q ≠ p → getK T.f0 q = getK t.f0 q ∨ getK T.f0 q = none) (hr : ∀ q, q ≠ p → getK T.f2 q = getK t.f2 q ∨ getK T.f2 q = none) (hp : ∀ a r, getK T.f0 p = some a → getK T.f2 p = some r → r.f0 = a.f0 → alikeS r a = true) :
    ∀ q a r, getK T.f0 q = some a → getK T.f2 q = some r → r.f0 = a.f0 → alikeS r a = true := by
  intro q a r h0 h2 hv
  by_cases e : q = p
  · subst e; exact hp a r h0 h2 hv
  · rcases ho q e with o | o
    · rcases hr q e with o' | o'
      · exact h.same q a r (o ▸ h0) (o' ▸ h2) hv
      · rw [o'] at h2; cases h2
    · rw [o] at h0; cases h0
theorem ok_do {t : S24} (ht : OkS t) {x : S33} {ver : Int} (h : readyS t x (stG (gK t x.f2)) = true) (hv : 1 ≤ ver ∧ ver ≤ 1099511627776) : OkS (doG t x ver (stG (gK t x.f2))) := by
  have hin := ready_in h
  have hk := ready_kind h
  have hx7 : x.f0 = 7 → kindS x.f3 = (2, 0) ∧ hasK t x.f3 = false := by
    intro e
    unfold readyS at h
    rw [e] at h
    simp at h
    exact ⟨h.2.2.1, h.2.2.2⟩
  have hg := gK_do ver h
  have g0 : ∀ q, getK (doG t x ver (stG (gK t x.f2))).f0 q = (gK (doG t x ver (stG (gK t x.f2))) q).1 := fun _ => rfl
  have g2 : ∀ q, getK (doG t x ver (stG (gK t x.f2))).f2 q = (gK (doG t x ver (stG (gK t x.f2))) q).2.2 := fun _ => rfl
  have hsame : ∀ q a r, getK (doG t x ver (stG (gK t x.f2))).f0 q = some a → getK (doG t x ver (stG (gK t x.f2))).f2 q = some r → r.f0 = a.f0 → alikeS r a = true := by
    refine same_of ht (p := x.f2) (fun q hq => .inl ?_) (fun q hq => .inl ?_) ?_
    · rw [g0, hg, if_neg hq]; split <;> rfl
    · rw [g2, hg, if_neg hq]; split <;> rfl
    · intro a r h0 h2 hva
      rw [g0, hg, if_pos rfl] at h0
      rw [g2, hg, if_pos rfl] at h2
      unfold aftG at h0 h2
      rcases hk with e | e | e | e | e | e | e <;> rw [e] at h0 h2 <;> simp only [reduceIte, Int.reduceEq] at h0 h2
      · rw [h0] at h2; injection h2 with h2; rw [h2]; exact alike_refl _
      · cases h0
      · rw [h0] at h2; injection h2 with h2; rw [h2]; exact alike_refl _
      · cases h0
      · rw [h0] at h2; injection h2 with h2; rw [h2]; exact alike_refl _
      · cases h0
      · rw [h0] at h2; injection h2 with h2; rw [h2]; exact alike_refl _
  have fl : ∀ l, (gK t x.f2).2.1 = some l → okK 0 ⟨x.f2, l⟩ = true := fun l e => ok_get ht.l e
  have fr : ∀ r, (gK t x.f2).2.2 = some r → okK 1 ⟨x.f2, r⟩ = true := fun r e => ok_get ht.r e
  refine ⟨?_, ?_, ?_, hsame⟩
  all_goals
    clear hsame g0 g2 hg
    unfold doG stG
    rcases hk with e | e | e | e | e | e | e <;> rw [e] at hin <;> rw [e] <;> simp only [reduceIte, Int.reduceEq]
  all_goals (try obtain ⟨l, hl⟩ := hin.1 (of_decide_eq_true rfl))
  all_goals (try obtain ⟨r, hr⟩ := hin.2 (of_decide_eq_true rfl))
  all_goals (try rw [hl])
  all_goals (try rw [hr])
  all_goals (try simp only [Option.getD_some])
  all_goals first
    | exact ht.a
    | exact ht.l
    | exact ht.r
    | exact ht.a.wo _
    | exact ht.l.wo _
    | exact ht.r.wo _
    | exact ht.a.withS (by have h1 := (okK_iff _ _ _).1 (fl l hl); exact (okK_iff _ _ _).2 ⟨h1.1, h1.2.1, h1.2.2.1, hv⟩)
    | exact ht.l.withS (by have h1 := (okK_iff _ _ _).1 (fl l hl); exact (okK_iff _ _ _).2 ⟨h1.1, h1.2.1, h1.2.2.1, by show (0 : Int) ≤ ver; omega, hv.2⟩)
    | exact ht.r.withS (by have h1 := (okK_iff _ _ _).1 (fl l hl); exact (okK_iff _ _ _).2 ⟨h1.1, h1.2.1, h1.2.2.1, hv⟩)
    | exact ht.a.withS (fr r hr)
    | exact ht.l.withS (by have h1 := (okK_iff _ _ _).1 (fr r hr); exact (okK_iff _ _ _).2 ⟨h1.1, h1.2.1, h1.2.2.1, by omega, h1.2.2.2.2⟩)
    | exact ht.l.withS (by have h1 := (okK_iff _ _ _).1 (fl l hl); have h2 := (okK_iff _ _ _).1 (fr r hr); exact (okK_iff _ _ _).2 ⟨h1.1, h1.2.1, h1.2.2.1, by show (0 : Int) ≤ r.f0; omega, h2.2.2.2.2⟩)
    | exact (ht.l.withS (by have h1 := (okK_iff _ _ _).1 (fl l hl); exact (okK_iff _ _ _).2 ⟨(hx7 e).1, h1.2⟩)).withS (by have h1 := (okK_iff _ _ _).1 (fr r hr); exact (okK_iff _ _ _).2 ⟨h1.1, h1.2.1, h1.2.2.1, by omega, h1.2.2.2.2⟩)
/-- A step that is ready is done. -/
theorem doS_ok {t : S24} (ht : OkS t) {x : S33} {ver : Int} (h : readyS t x (stG (gK t x.f2)) = true) (hv : 1 ≤ ver ∧ ver ≤ 1099511627776) : doS t x ver = (doG t x ver (stG (gK t x.f2)), 0) := by
  unfold doS
  rw [if_pos ((check_iff t).2 ht), atS_st]
  unfold doT
  rw [if_pos h, if_neg (by omega)]
/-- What a path's step asks for is there. -/
theorem step_ready {t : S24} {g : Option S51 × Option S51 × Option S51} {p : ByteArray} (h0 : (stepS (stG g) p).f0 ≠ 0) (h7 : (stepS (stG g) p).f0 ≠ 7) : readyS t (stepS (stG g) p) (stG g) = true := by
  obtain ⟨a, l, r⟩ := g
  have hH : (stG (a, l, r)).here = ((l.isSome != a.isSome) || (l.isSome && !alikeS (a.getD z51) (l.getD z51))) := rfl
  have hT : (stG (a, l, r)).there = ((r.isSome != a.isSome) || (r.isSome && ((a.getD z51).f0 != (r.getD z51).f0))) := rfl
  have hL : (stG (a, l, r)).inL = l.isSome := rfl
  have hR : (stG (a, l, r)).inR = r.isSome := rfl
  have hr : (stG (a, l, r)).r = r.getD z51 := rfl
  have ha : (stG (a, l, r)).a = a.getD z51 := rfl
  have hz : z51.f0 = 0 := rfl
  generalize stG (a, l, r) = x at *
  obtain ⟨xa, xl, xr, ia, il, ir, he, th⟩ := x
  dsimp only at hH hT hL hR hr ha
  subst hL hR hr ha
  cases he <;> cases th <;> cases a <;> cases l <;> cases r <;> simp [stepS, readyS, heldS, z33, hz] at hH hT h0 h7 ⊢
  all_goals first
    | done
    | (split at h0 <;> simp_all)
    | simp_all
end Go.Proofs.YtjllbkeobibnkaaDoor.Q

namespace Go.Proofs.YtjllbkeobibnkaaDoor.Q
open Go Go.Proofs Go.Shelf Go.RowKit Go.Lib Go.Sort Go.Proofs.YtjllbkeobibnkaaDoorP Go.Proofs.YtjllbkeobibnkaaDoorK Go.Proofs.YtjllbkeobibnkaaDoorW.PrintWords Go.Proofs.YtjllbkeobibnkaaDoorW.PrintLast Go.Proofs.YtjllbkeobibnkaaDoorW.PrintMore
set_option linter.unusedSimpArgs false
set_option linter.unusedVariables false
theorem dlen (p : ByteArray) : p.data.toList.length = p.size := rfl
def parts (p : ByteArray) : List (List UInt8) := if p.size = 0 then [] else names p.data.toList
theorem parts_inj {a b : ByteArray} (h : parts a = parts b) : a = b := by
  unfold parts at h
  split at h
  · rename_i h0
    split at h
    · rename_i h1
      apply ByteArray.ext
      apply Array.ext'
      have e1 : a.data.toList = [] := List.eq_nil_of_length_eq_zero (by rw [dlen]; exact h0)
      have e2 : b.data.toList = [] := List.eq_nil_of_length_eq_zero (by rw [dlen]; exact h1)
      rw [e1, e2]
    · exact absurd h.symm (names_ne _)
  · split at h
    · exact absurd h (names_ne _)
    · exact ByteArray.ext (Array.ext' (names_inj h))
theorem kindL_nil : kindL [] = 0 := rfl
/-- All but the last one are directories' names. -/
theorem kindsL_some (l : List (List UInt8)) : ∀ (k r : Int), l ≠ [] → kindsL l k = some r → (r = 1 ∨ r = 2) ∧ (∀ n ∈ l, n ≠ []) ∧ (2 ≤ l.length → kindsL l.dropLast 0 = some 1) := by
  induction l with
  | nil => intro k r h; exact absurd rfl h
  | cons n l ih =>
    intro k r _ h
    rw [kindsL_cons] at h
    by_cases h0 : kindL n = 0
    · rw [if_pos h0] at h; cases h
    · rw [if_neg h0] at h
      have hn : n ≠ [] := fun e => h0 (by rw [e]; exact kindL_nil)
      cases l with
      | nil =>
        rw [if_neg (fun hh => hh.2 rfl)] at h
        simp only [kindsL, Option.some.injEq] at h
        subst h
        exact ⟨(kindL_cases n).resolve_left h0, fun m hm => by rw [List.mem_singleton.1 hm]; exact hn, fun h2 => by simp at h2⟩
      | cons m l =>
        by_cases h2 : kindL n = 2
        · rw [if_pos ⟨h2, by simp⟩] at h; cases h
        · rw [if_neg (fun hh => h2 hh.1)] at h
          obtain ⟨i1, i2, i3⟩ := ih _ _ (by simp) h
          have h1 : kindL n = 1 := ((kindL_cases n).resolve_left h0).resolve_right h2
          refine ⟨i1, fun x hx => (List.mem_cons.1 hx).elim (fun e => by rw [e]; exact hn) (i2 x), fun _ => ?_⟩
          rw [List.dropLast_cons_cons, kindsL_cons, if_neg h0, if_neg (fun hh => h2 hh.1), h1]
          cases l with
          | nil => rfl
          | cons m2 l =>
            have := i3 (by simp)
            rw [List.dropLast_cons_cons, kindsL_cons] at this ⊢
            exact this
/-- What a path that may be is. -/
theorem isP_open {p : ByteArray} (h : isP p = true) : p.size ≤ 96 ∧ ((p.size = 0 ∧ (kindS p).1 = 1) ∨ (p.size ≠ 0 ∧ (names p.data.toList).length ≤ 8 ∧ kindsL (names p.data.toList) 0 = some (kindS p).1)) := by
  unfold isP at h
  rw [beq_iff_eq] at h
  unfold kindS at h ⊢
  by_cases h96 : 96 < p.size
  · rw [if_pos h96] at h; exact absurd h (by decide)
  · rw [if_neg h96] at h ⊢
    refine ⟨by omega, ?_⟩
    by_cases h0 : p.size = 0
    · rw [if_pos h0] at h ⊢; exact .inl ⟨h0, rfl⟩
    · rw [if_neg h0] at h ⊢
      refine .inr ⟨h0, ?_⟩
      cases hk : kindsL (names p.data.toList) 0 with
      | none => rw [hk] at h; simp at h
      | some r =>
        rw [hk] at h
        dsimp only at h ⊢
        by_cases h8 : 8 < (names p.data.toList).length
        · rw [if_pos h8] at h; simp at h
        · rw [if_neg h8]; exact ⟨by omega, rfl⟩
theorem isP_mk {p : ByteArray} {r : Int} (h1 : p.size ≤ 96) (h0 : p.size ≠ 0) (h2 : (names p.data.toList).length ≤ 8) (h3 : kindsL (names p.data.toList) 0 = some r) : isP p = true ∧ (kindS p).1 = r := by
  unfold isP kindS
  rw [if_neg (by omega), if_neg h0, h3]
  dsimp only
  rw [if_neg (by omega)]
  exact ⟨rfl, rfl⟩
theorem isP_kind {p : ByteArray} (h : isP p = true) : (kindS p).1 = 1 ∨ (kindS p).1 = 2 := by
  rcases (isP_open h).2 with ⟨_, h1⟩ | ⟨_, _, h1⟩
  · exact .inl h1
  · exact (kindsL_some _ _ _ (names_ne _) h1).1
theorem names_free (a : List UInt8) (h : 47 ∉ a) : names a = [a] := by rw [names_sepC]; exact sepC_free 47 a h
theorem names_app (a b : List UInt8) : names (a ++ 47 :: b) = names a ++ names b := by rw [names_sepC, names_sepC, names_sepC]; exact sepC_app 47 a b
theorem parB_list (p : ByteArray) : (parB p).data.toList = p.data.toList.take (max (lastIndexByte p 47) 0).toNat := by
  unfold parB
  rw [ByteArray.data_extract, Array.toList_extract, List.extract_eq_take_drop]
  simp
theorem at_eq (p : ByteArray) (j : Nat) (h : j < p.size) : (((p.data[j]!).toNat : Int) = 47) ↔ p.data.toList[j]'h = 47 := by
  have e : p.data[j]! = p.data.toList[j]'h := by
    rw [getElem!_pos p.data j h]
    simp
  rw [e]
  exact ⟨fun h => UInt8.toNat.inj (by have : (47 : UInt8).toNat = 47 := rfl; omega), fun h => by rw [h]; rfl⟩
theorem parB_names (p : ByteArray) : (names (parB p).data.toList = (names p.data.toList).dropLast ∧ 2 ≤ (names p.data.toList).length) ∨ ((names p.data.toList).length = 1 ∧ (parB p).size = 0) := by
  have hl := parB_list p
  unfold lastIndexByte at hl
  rcases lastIdx_spec p 47 p.size with ⟨e, hn⟩ | ⟨i, hi, e, hc, hn⟩
  · right
    rw [e] at hl
    have hf : 47 ∉ p.data.toList := by
      intro hm
      obtain ⟨j, hj, hq⟩ := List.getElem_of_mem hm
      exact hn j hj ((at_eq p j hj).2 hq)
    refine ⟨by rw [names_free _ hf]; rfl, ?_⟩
    rw [← dlen, hl]
    rfl
  · left
    rw [e] at hl
    have hmx : (max (i : Int) 0).toNat = i := by omega
    rw [hmx] at hl
    have hil : i < p.data.toList.length := hi
    have hci := (at_eq p i hi).1 hc
    have hsp : p.data.toList = p.data.toList.take i ++ 47 :: p.data.toList.drop (i + 1) := by
      conv => lhs; rw [← List.take_append_drop i p.data.toList, List.drop_eq_getElem_cons hil, hci]
    have hf : 47 ∉ p.data.toList.drop (i + 1) := by
      intro hm
      obtain ⟨j, hj, hq⟩ := List.getElem_of_mem hm
      rw [List.length_drop] at hj
      rw [List.getElem_drop] at hq
      have hjl : i + 1 + j < p.size := by rw [← dlen]; omega
      exact hn (i + 1 + j) (by omega) hjl ((at_eq p (i + 1 + j) hjl).2 hq)
    have hna : names p.data.toList = names (p.data.toList.take i) ++ [p.data.toList.drop (i + 1)] := by
      conv => lhs; rw [hsp, names_app, names_free _ hf]
    rw [hl, hna]
    refine ⟨by rw [List.dropLast_concat], ?_⟩
    rw [List.length_append]
    have := List.length_pos_iff.2 (names_ne (p.data.toList.take i))
    simp only [List.length_singleton]
    omega
theorem parB_parts {p : ByteArray} (h : isP p = true) (h0 : p.size ≠ 0) : isP (parB p) = true ∧ (kindS (parB p)).1 = 1 ∧ parts (parB p) = (parts p).dropLast ∧ parts p ≠ [] := by
  obtain ⟨h96, ho⟩ := isP_open h
  rcases ho with ⟨h1, _⟩ | ⟨_, h8, hk⟩
  · exact absurd h1 h0
  · obtain ⟨_, hne, hdl⟩ := kindsL_some _ _ _ (names_ne _) hk
    have hpp : parts p = names p.data.toList := if_neg h0
    have hlt : (parB p).size < p.size := by
      have hp : (parS p).2 = true := by unfold parS; rw [if_neg (fun hh => hh.elim h0 (fun e => by rw [h] at e; cases e))]
      have := parS_size hp
      unfold parS at this
      rw [if_neg (fun hh => hh.elim h0 (fun e => by rw [h] at e; cases e))] at this
      exact this
    rw [hpp]
    refine (parB_names p).elim (fun ⟨h1, h2⟩ => ?_) (fun ⟨h1, h2⟩ => ?_)
    · have hb0 : (parB p).size ≠ 0 := by
        intro e
        have e1 : (parB p).data.toList = [] := List.eq_nil_of_length_eq_zero (by rw [dlen]; exact e)
        rw [e1] at h1
        have hm : ([] : List UInt8) ∈ (names p.data.toList).dropLast := by rw [← h1]; exact List.mem_cons_self
        exact hne [] ((List.dropLast_prefix _).subset hm) rfl
      have hmk := isP_mk (p := parB p) (r := 1) (by omega) hb0 (by rw [h1, List.length_dropLast]; omega) (by rw [h1]; exact hdl h2)
      exact ⟨hmk.1, hmk.2, by unfold parts; rw [if_neg hb0]; exact h1, names_ne _⟩
    · have hz : kindS (parB p) = (1, 0) := by unfold kindS; rw [if_neg (by omega), if_pos h2]
      refine ⟨by unfold isP; rw [hz]; rfl, by rw [hz], ?_, names_ne _⟩
      unfold parts
      rw [if_pos h2]
      match hq : names p.data.toList, h1 with
      | [x], _ => rfl
theorem ups_none {p : ByteArray} (h : p.size = 0 ∨ isP p = false) : ups p = [] := by
  rw [ups_eq]
  unfold parS
  rw [if_pos h]
  rfl
theorem ups_some {p : ByteArray} (h : isP p = true) (h0 : p.size ≠ 0) : ups p = parB p :: ups (parB p) := by
  have hp : parS p = (parB p, true) := if_neg (fun hh => hh.elim h0 (fun e => by rw [h] at e; cases e))
  rw [ups_eq, hp]
  rfl
/-- A directory's path. -/
def isD (p : ByteArray) : Prop := isP p = true ∧ (kindS p).1 = 1
theorem ups_iff (n : Nat) : ∀ (p d : ByteArray), isP p = true → (parts p).length = n → (d ∈ ups p ↔ isD d ∧ parts d <+: parts p ∧ (parts d).length < (parts p).length) := by
  induction n with
  | zero =>
    intro p d h hn
    have h0 : p.size = 0 := by
      rcases Nat.eq_zero_or_pos p.size with e | e
      · exact e
      · have := (parB_parts h (by omega)).2.2.2
        exact absurd (List.eq_nil_of_length_eq_zero hn) this
    rw [ups_none (.inl h0)]
    constructor
    · intro hm; simp at hm
    · rintro ⟨_, _, hl⟩; omega
  | succ n ih =>
    intro p d h hn
    have h0 : p.size ≠ 0 := fun e => by unfold parts at hn; rw [if_pos e] at hn; simp at hn
    obtain ⟨b1, b2, b3, b4⟩ := parB_parts h h0
    have hbl : (parts (parB p)).length = n := by rw [b3, List.length_dropLast]; omega
    rw [ups_some h h0, List.mem_cons, ih (parB p) d b1 hbl]
    constructor
    · rintro (e | ⟨hd, hp, hl⟩)
      · subst e
        exact ⟨⟨b1, b2⟩, by rw [b3]; exact List.dropLast_prefix _, by omega⟩
      · exact ⟨hd, hp.trans (by rw [b3]; exact List.dropLast_prefix _), by omega⟩
    · rintro ⟨hd, hp, hl⟩
      have hp2 : parts d <+: parts (parB p) := by
        rw [b3, List.dropLast_eq_take]
        rw [List.prefix_iff_eq_take] at hp ⊢
        rw [List.take_take, Nat.min_eq_left (by omega)]
        exact hp
      rcases Nat.lt_or_ge (parts d).length n with hlt | hge
      · exact .inr ⟨hd, hp2, by omega⟩
      · exact .inl (parts_inj (List.IsPrefix.eq_of_length_le hp2 (by omega)))
theorem below_iff (d p : ByteArray) : belowS d p = true ↔ isP p = true ∧ isD d ∧ parts d <+: parts p ∧ (parts d).length < (parts p).length := by
  unfold belowS
  rw [List.any_eq_true]
  cases h : isP p with
  | false =>
    rw [ups_none (.inr h)]
    simp
  | true =>
    rw [← ups_iff _ p d h rfl]
    constructor
    · rintro ⟨x, hx, he⟩
      rw [beq_iff_eq, tlB] at he
      exact ⟨rfl, by rw [← he]; exact hx⟩
    · rintro ⟨_, hx⟩
      exact ⟨d, hx, beq_iff_eq.2 rfl⟩
theorem within_iff (d p : ByteArray) : withinS d p = true ↔ p = d ∨ (isP p = true ∧ isD d ∧ parts d <+: parts p ∧ (parts d).length < (parts p).length) := by
  unfold withinS
  rw [Bool.or_eq_true, beq_iff_eq, tlB, below_iff]
theorem isP_of {p : ByteArray} (h : kindS p = (2, 0)) : isP p = true := by unfold isP; rw [h]; rfl
/-- What stands ahead of the last point, and behind it: no / is there behind it. -/
theorem point_split {p : ByteArray} (h : kindS p = (2, 0)) : ∃ k : Nat, lastIndexByte p 46 = (k : Int) ∧ k < p.size ∧ 47 ∉ p.data.toList.drop k ∧ 46 ∈ p.data.toList.drop k := by
  obtain ⟨k, h1, h2, h3, h4⟩ := last_point p h
  have hpl : p.data.toList.length = p.size := rfl
  have hk46 : 46 ∈ p.data.toList.drop k := by
    rw [List.drop_eq_getElem_cons (by omega)]
    have e2 : p.data[k]! = p.data.toList[k]'(by omega) := by
      rw [getElem!_pos p.data _ (by have : p.data.size = p.size := rfl; omega)]
      simp
    rw [e2] at h3
    have e3 : p.data.toList[k]'(by omega) = 46 := UInt8.toNat.inj (by have : (46 : UInt8).toNat = 46 := rfl; omega)
    rw [e3]
    exact List.mem_cons_self
  refine ⟨k, h2, h1, fun hm => ?_, hk46⟩
  obtain ⟨n, hn1, hn2⟩ := file_last p h
  have hp := kindL_point n hn2
  obtain ⟨x, y, hxy, hx⟩ := split_first 47 _ hm
  have hsp : p.data.toList = (p.data.toList.take k ++ x) ++ 47 :: y := by
    conv => lhs; rw [← List.take_append_drop k p.data.toList, hxy]
    rw [List.append_assoc]
  have hna : names p.data.toList = names (p.data.toList.take k ++ x) ++ names y := by
    conv => lhs; rw [hsp, names_app]
  rw [hna, List.getLast?_append] at hn1
  have hl : (names y).getLast? = some n := by
    cases hg : (names y).getLast? with
    | none => exact absurd (List.getLast?_eq_none_iff.1 hg) (names_ne y)
    | some m => rw [hg] at hn1; exact hn1
  have hin : 46 ∈ y := names_sub y n (List.mem_of_getLast? hl) _ hp
  obtain ⟨j, hj, he⟩ := List.mem_iff_getElem.1 hin
  have hlen : p.data.toList.length = (p.data.toList.take k).length + x.length + 1 + y.length := by
    conv => lhs; rw [hsp]
    simp
    omega
  have hk : (p.data.toList.take k).length = k := by rw [List.length_take]; have : p.data.toList.length = p.size := rfl; omega
  have hdx : (p.data.toList.take k ++ x).length = k + x.length := by rw [List.length_append, hk]
  have hlt : k + x.length + 1 + j < p.size := by omega
  refine h4 (k + x.length + 1 + j) (by omega) hlt ?_
  have e1 : p.data.toList[k + x.length + 1 + j]'(by omega) = 46 := by
    have : p.data.toList[k + x.length + 1 + j]? = some 46 := by
      rw [hsp, List.getElem?_append_right (by omega), hdx, show k + x.length + 1 + j - (k + x.length) = j + 1 by omega, List.getElem?_cons_succ, List.getElem?_eq_getElem hj, he]
    rw [List.getElem?_eq_getElem (by omega)] at this
    exact Option.some.inj this
  have e2 : p.data[k + x.length + 1 + j]! = p.data.toList[k + x.length + 1 + j]'(by omega) := by
    rw [getElem!_pos p.data _ (by have : p.data.size = p.size := rfl; omega)]
    simp
  rw [e2, e1]
  rfl
theorem dec_free (n : Nat) (h : n ≤ 999) : 47 ∉ (decB n).data.toList := by
  intro hm
  have h1 : (decB n).data.toList = (digs n).dropWhile (· == 48) := rfl
  rw [h1] at hm
  have h2 : (47 : UInt8) ∈ digs n := (List.dropWhile_sublist _).subset hm
  unfold digs at h2
  have hd : ∀ d : Nat, d ≤ 9 → (47 : UInt8) ≠ UInt8.ofNat (48 + d) := by decide
  rcases List.mem_cons.1 h2 with e | h2
  · exact hd (n / 100) (by omega) e
  · rcases List.mem_cons.1 h2 with e | h2
    · exact hd (n / 10 % 10) (by omega) e
    · rcases List.mem_cons.1 h2 with e | h2
      · exact hd (n % 10) (by omega) e
      · cases h2
/-- All but the last name are the same. -/
theorem names_tail (a b c : List UInt8) (hb : 47 ∉ b) (hc : 47 ∉ c) : ∃ N z, names (a ++ b) = N ++ [z ++ b] ∧ names (a ++ c) = N ++ [z ++ c] := by
  induction a with
  | nil => exact ⟨[], [], by rw [List.nil_append, names_free b hb]; rfl, by rw [List.nil_append, names_free c hc]; rfl⟩
  | cons x a ih =>
    obtain ⟨N, z, h1, h2⟩ := ih
    by_cases hx : x = 47
    · subst hx
      refine ⟨[] :: N, z, ?_, ?_⟩
      · rw [List.cons_append]; unfold names; rw [if_pos rfl, h1]; rfl
      · rw [List.cons_append]; unfold names; rw [if_pos rfl, h2]; rfl
    · cases N with
      | nil =>
        refine ⟨[], x :: z, ?_, ?_⟩
        · rw [List.cons_append]; unfold names; rw [if_neg hx, h1]; rfl
        · rw [List.cons_append]; unfold names; rw [if_neg hx, h2]; rfl
      | cons y N =>
        refine ⟨(x :: y) :: N, z, ?_, ?_⟩
        · rw [List.cons_append]; unfold names; rw [if_neg hx, h1]; rfl
        · rw [List.cons_append]; unfold names; rw [if_neg hx, h2]; rfl
theorem cp_names {p : ByteArray} (h : kindS p = (2, 0)) (n : Nat) (hn : n ≤ 999) : ∃ N m k, names p.data.toList = N ++ [m] ∧ names (cpName p n).data.toList = N ++ [k] ∧ 46 ∈ k := by
  obtain ⟨k, h1, h2, h3, h46⟩ := point_split h
  have e : (cpName p n).data.toList = p.data.toList.take k ++ (126 :: (decB n).data.toList ++ p.data.toList.drop k) := by
    unfold cpName
    rw [h1]
    simp only [ByteArray.data_append, Array.toList_append, ByteArray.data_extract, Array.toList_extract, List.extract_eq_take_drop, Int.toNat_natCast, Nat.sub_zero, List.drop_zero]
    have hsz : p.data.toList.length = p.size := rfl
    rw [List.take_of_length_le (l := p.data.toList.drop k) (by rw [List.length_drop]; omega)]
    simp
  rw [e]
  obtain ⟨N, z, hN1, hN2⟩ := names_tail (p.data.toList.take k) (p.data.toList.drop k) (126 :: (decB n).data.toList ++ p.data.toList.drop k) h3 (by
    intro hm
    rw [List.cons_append] at hm
    rcases List.mem_cons.1 hm with e | hm
    · exact absurd e (by decide)
    · rcases List.mem_append.1 hm with hm | hm
      · exact dec_free n hn hm
      · exact h3 hm)
  rw [List.take_append_drop] at hN1
  exact ⟨N, _, _, hN1, hN2, List.mem_append_right _ (List.mem_append_right _ h46)⟩
theorem parts_names {p : ByteArray} (h : kindS p = (2, 0)) : parts p = names p.data.toList := by
  unfold parts
  rw [if_neg]
  intro h0
  unfold kindS at h
  rw [if_neg (by omega), if_pos h0] at h
  injection h with h
  exact absurd h (by decide)
theorem cp_in {inn : List ByteArray} {p : ByteArray} {n : Nat} (hp : kindS p = (2, 0)) (hn : n ≤ 999) (hq : kindS (cpName p n) = (2, 0)) (hd : ∀ d ∈ inn, kindS d ≠ (2, 0)) (h : hasS inn p = true) : hasS inn (cpName p n) = true := by
  unfold hasS at h ⊢
  rw [Bool.and_eq_true] at h ⊢
  refine ⟨isP_of hq, ?_⟩
  obtain ⟨d, hdm, hw⟩ := List.any_eq_true.1 h.2
  refine List.any_eq_true.2 ⟨d, hdm, ?_⟩
  rcases (within_iff d p).1 hw with e | ⟨_, hD, hpre, hlt⟩
  · exact absurd (e ▸ hp) (hd d hdm)
  · refine (within_iff d _).2 (.inr ⟨isP_of hq, hD, ?_⟩)
    obtain ⟨N, m, k, e1, e2, _⟩ := cp_names hp n hn
    rw [parts_names hp, e1] at hpre hlt
    rw [parts_names hq, e2]
    have hl : (parts d).length ≤ N.length := by rw [List.length_append] at hlt; simp at hlt; omega
    have hpN : parts d <+: N := by
      rw [List.prefix_iff_eq_take] at hpre ⊢
      rw [List.take_append_of_le_length hl] at hpre
      exact hpre
    exact ⟨hpN.trans (List.prefix_append _ _), by rw [List.length_append]; simp; omega⟩
theorem kindL_not1 (k : List UInt8) (h : 46 ∈ k) : kindL k ≠ 1 := by
  obtain ⟨x, y, rfl, hx⟩ := split_first 46 k h
  have hi := index_first 46 x y hx
  have hc : (cut (x ++ 46 :: y) [46]).2.2 = true := by unfold cut; rw [hi, if_pos (by omega)]
  unfold kindL
  rw [hc]
  split
  · decide
  · split
    · decide
    · rw [if_neg (by decide)]
      split <;> decide
theorem last_file {q : ByteArray} {N : List (List UInt8)} {k : List UInt8} (e2 : names q.data.toList = N ++ [k]) (hk : 46 ∈ k) (hq : (kindS q).2 = 0) : kindS q = (2, 0) := by
  have hP : isP q = true := beq_iff_eq.2 hq
  have hl : (names q.data.toList).getLast? = some k := by rw [e2, List.getLast?_concat]
  rcases (isP_open hP).2 with ⟨h0, _⟩ | ⟨_, _, h1⟩
  · exfalso
    have h2 : q.data.toList = [] := List.eq_nil_of_length_eq_zero h0
    rw [h2] at hl
    have h3 : some ([] : List UInt8) = some k := hl
    injection h3 with h3
    rw [← h3] at hk
    cases hk
  · have h2 := kindsL_last _ _ _ h1
    rw [hl] at h2
    have h2 : (kindS q).1 = kindL k := h2
    have h3 := kindL_not1 k hk
    have h4 := isP_kind hP
    rw [← h2] at h3
    have h5 := h4.resolve_left h3
    exact Prod.ext h5 hq
theorem cp_file {p : ByteArray} {n : Nat} (hp : kindS p = (2, 0)) (hn : n ≤ 999) (hq : (kindS (cpName p n)).2 = 0) : kindS (cpName p n) = (2, 0) := by
  obtain ⟨N, m, k, e1, e2, hk⟩ := cp_names hp n hn
  exact last_file e2 hk hq
/-- What a copy that is free is. -/
theorem free_some {p : ByteArray} {tk : ByteArray → Bool} : ∀ (d n : Nat), d + n ≤ 1000 → (freeN (cpK p) tk d n).2 = true → ∃ j, j ≤ 999 ∧ (freeN (cpK p) tk d n).1 = cpName p j ∧ kindS p = (2, 0) ∧ (kindS (cpName p j)).2 = 0 ∧ tk (cpName p j) = false := by
  intro d
  induction d with
  | zero => intro n _ h; cases h
  | succ d ih =>
    intro n hn h
    unfold freeN at h ⊢
    split at h
    · rename_i hc
      rw [if_pos hc]
      unfold cpK at hc ⊢
      split at hc
      · rename_i hk
        split at hc
        · rename_i hz
          rw [if_pos hk, if_pos hz]
          exact ⟨n, by omega, rfl, hk, hz, hc.2⟩
        · rename_i hz
          exact absurd hc.1 hz
      · exact absurd hc.1 (by decide)
    · rename_i hc
      rw [if_neg hc]
      exact ih (n + 1) (by omega) h
end Go.Proofs.YtjllbkeobibnkaaDoor.Q
