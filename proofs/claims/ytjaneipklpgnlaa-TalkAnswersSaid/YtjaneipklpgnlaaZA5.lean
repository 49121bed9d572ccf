/-
What is proved: aquifer/aquiferlaw20.TalkAnswers answers true for every input, and leaves its arguments as they were.
-/
import Derived.Test.YtjaneipklpgnlaaZA4
import Derived.RegionTactic
import Derived.Test.YtjaneipklpgnlaaWTab
import Derived.Test.YtjaneipklpgnlaaZA1
import Derived.Test.YtjaneipklpgnlaaRows
import Derived.WalkKit
import Derived.ProofKit
import Derived.OpenShut
import Derived.ShutString
import Derived.ChangeOld
import Derived.Below
import Derived.SizedLaws
namespace Go.Proofs.Ytjaneipklpgnlaa.Q
open Go Go.RowKit Go.Proofs.YtjaneipklpgnlaaK Go.Proofs.YtjaneipklpgnlaaW.PrintWords Go.Proofs.YtjaneipklpgnlaaW.PrintLast Go.Proofs.YtjaneipklpgnlaaW.PrintMore
set_option linter.unusedSimpArgs false
set_option linter.unusedVariables false
/-! ### An answer off its fields -/
def ansOf (L : List S84) : S42 := ⟨getN L 1, getN L 2, getN L 3, getN L 4, getT L 5, (textsOf L 6).map unrS⟩
theorem num_i {W : World} {A : Option Addr} {k : Nat} {L : List S84} (hc : Kd.C k84 W A L.length L) (hk : L.length ≤ k) (hl : L.length ≤ 1048576) (t : Int) :
    Calls Try.prog 34 #[.slice A L.length k, .int .i64 t] W fun e w' => e = .returned (.int .i64 (getN L t)) ∧ Below W.heap.size W w' := talk_reader_num.calls A k L t _ W hc hk (rnum_fn L hl t)
theorem text_i {W : World} {A : Option Addr} {k : Nat} {L : List S84} (hc : Kd.C k84 W A L.length L) (hk : L.length ≤ k) (hl : L.length ≤ 1048576) (t : Int) :
    Calls Try.prog 35 #[.slice A L.length k, .int .i64 t] W fun e w' => e = .returned (.string (getT L t)) ∧ Below W.heap.size W w' := talk_reader_text.calls A k L t _ W hc hk (rtext_fn L hl t)
theorem texts_i {W : World} {A : Option Addr} {k : Nat} {L : List S84} (hc : Kd.C k84 W A L.length L) (hk : L.length ≤ k) (hl : L.length ≤ 1048576) (t : Int) :
    Calls Try.prog 46 #[.slice A L.length k, .int .i64 t] W fun e w' => ∃ v, e = .returned v ∧ Kd.R Kd.string 9 w' W.heap.size (fun _ => True) v (textsOf L t) ∧ Below W.heap.size W w' :=
  field_Texts.calls A k L t _ W hc hk (by unfold field_Texts.f; rw [if_pos hl]; rfl)
theorem textsOf_len (L : List S84) (t : Int) : (textsOf L t).length ≤ L.length := by
  unfold textsOf
  rw [List.length_map]
  exact List.length_filter_le _ _
abbrev Z42 : Array Value := #[.int .i64 0, .int .i64 0, .int .i64 0, .int .i64 0, .string ⟨#[]⟩, .slice none 0 0]
theorem info42 : (Try.prog.info? 42).map (·.size) = some 6 := by kernel_rfl
theorem infoB81 : (Try.prog.info? 81).map (fun i => (i.zero, i.size, i.bytes)) = some (some (.agg Z81), 36, 72) := by kernel_rfl
theorem laid81 (c : S81) : Array.foldl (fun (cs : Array Value) (x : Value × Nat) => cs.setIfInBounds x.2 x.1) #[.int .i64 0, .string ⟨#[]⟩, .bool false, .int .i64 0, .int .u8 0, .int .u8 0, .int .u8 0, .int .u8 0, .int .u8 0, .int .u8 0, .int .u8 0, .int .u8 0, .int .u8 0, .int .u8 0, .int .u8 0, .int .u8 0, .int .u8 0, .int .u8 0, .int .u8 0, .int .u8 0, .int .u8 0, .int .u8 0, .int .u8 0, .int .u8 0, .int .u8 0, .int .u8 0, .int .u8 0, .int .u8 0, .int .u8 0, .int .u8 0, .int .u8 0, .int .u8 0, .int .u8 0, .int .u8 0, .int .u8 0, .int .u8 0] (A81 c).zipIdx 0 36 = A81 c := laid_row _ _ 36 rfl (A81_size c)
attribute [local go_sem] laid81 A81_size A81_0 A81_1 A81_2 A81_3 A81_g0 A81_g1 A81_g2 A81_g3 cell_held frozen_held
set_option maxRecDepth 100000 in
set_option maxHeartbeats 4000000 in
theorem buildA_any (w : World) (A : Option Addr) (k : Nat) (L : List S84) (hc : Kd.C k84 w A L.length L) (hk : L.length ≤ k) (hl : L.length ≤ 1048576) :
    Calls Try.prog 45 #[.slice A L.length k] w fun e w' => ∃ v, e = .returned (.agg #[.int .i64 (getN L 1), .int .i64 (getN L 2), .int .i64 (getN L 3), .int .i64 (getN L 4), .string (getT L 5), v]) ∧ Kd.R k81 81 w' w.heap.size (fun _ => True) v ((textsOf L 6).map unrS) ∧ Below w.heap.size w w' := by
  have hu42 := Try.underlying42
  have HC := Aside0.mk hc
  clear hc
  have hT := textsOf_len L 6
  go_enter Try.func45, Try.ntmps45
  go_wp2_with ((with_reducible refine gate_dst (N := 2) rfl ?_); refine new_event rfl (N := 2) rfl (ob := .cells Z42 42) (by go_simp; rfl) ?_; intro w0 p0 h0)
  refine (num_i ?hC hk hl 1).mono ?_
  case hC => exact Kd.C_below HC.out (bel _ _)
  rintro e w1 ⟨rfl, hb⟩
  have p1 := prev_call hb
  clear hb
  go_wp2_with fail
  refine (num_i ?hC hk hl 2).mono ?_
  case hC => exact Kd.C_below HC.out (bel _ _)
  rintro e w2 ⟨rfl, hb⟩
  have p2 := prev_call hb
  clear hb
  go_wp2_with fail
  refine (num_i ?hC hk hl 3).mono ?_
  case hC => exact Kd.C_below HC.out (bel _ _)
  rintro e w3 ⟨rfl, hb⟩
  have p3 := prev_call hb
  clear hb
  go_wp2_with fail
  refine (num_i ?hC hk hl 4).mono ?_
  case hC => exact Kd.C_below HC.out (bel _ _)
  rintro e w4 ⟨rfl, hb⟩
  have p4 := prev_call hb
  clear hb
  go_wp2_with fail
  refine (text_i ?hC hk hl 5).mono ?_
  case hC => exact Kd.C_below HC.out (bel _ _)
  rintro e w5 ⟨rfl, hb⟩
  have p5 := prev_call hb
  have s5 := siz w w5
  clear hb
  go_wp2_with fail
  refine (texts_i ?hC hk hl 6).mono ?_
  case hC => exact Kd.C_below HC.out (bel _ _)
  rintro e w6 ⟨v6, rfl, hv6, hb⟩
  have p6 := prev_call hb
  have s6 := hb.size
  simp only [World.size_alloc] at s6 hv6
  have HT6 := Aside0.mk hv6
  obtain ⟨A6, c6, rfl⟩ := Kd.R_slice hv6
  have hlt5 := held_lt (W := w5) (g := w.heap.size)
  clear hb hv6
  go_wp2_with fail
  go_loopw [20] (fun i wr => ∃ j : Nat, ∃ v : Value, j ≤ (textsOf L 6).length ∧ i = .int .i64 (j : Int) ∧ Aside0 (Below w.heap.size w wr) ∧ Aside0 (wr.heap[w.heap.size]? = some (.cells Z42 42 (0, 0))) ∧ Aside0 (wr.heap[w5.heap.size]? = some (.cells #[.int .i64 (getN L 1), .int .i64 (getN L 2), .int .i64 (getN L 3), .int .i64 (getN L 4), .string (getT L 5), v] 42 (0, 0))) ∧ Aside0 (Kd.R k81 81 wr w5.heap.size (fun _ => True) v (((textsOf L 6).take j).map unrS)) ∧ Aside0 (Kd.R Kd.string 9 wr (w5.heap.size + 1) (fun _ => True) (.slice A6 (textsOf L 6).length c6) (textsOf L 6)) ∧ Aside0 (Below w5.heap.size w5 wr)) (fun i _ => (textsOf L 6).length - (intOf i).toNat)
  case atStart => exact ⟨0, _, Nat.zero_le _, rfl, ⟨bel _ _⟩, ⟨held⟩, ⟨held⟩, ⟨Kd.R_nil _ _ _ _ _⟩, HT6, ⟨(inferInstance : Bel w5.heap.size w5 w6).out (Nat.le_refl _)⟩⟩
  case round =>
    obtain ⟨j, v, hj, rfl, HB, h2, h3, HV, HT, HB6⟩ := hrel
    have pr := prev_above HB.out
    have H2 : Holds wr w.heap.size (.cells Z42 42) := ⟨h2.out⟩
    have H3 : Holds wr w5.heap.size (.cells #[.int .i64 (getN L 1), .int .i64 (getN L 2), .int .i64 (getN L 3), .int .i64 (getN L 4), .string (getT L 5), v] 42) := ⟨h3.out⟩
    have sr := HB6.out.size
    by_cases hlt : j < (textsOf L 6).length
    · obtain ⟨A7, c7, e7, hk7, hc7⟩ := Kd.R_reads HT.out
      obtain ⟨ad, e, x0⟩ := c_scalar hc7 j hlt
      obtain ⟨rfl, rfl⟩ : A6 = A7 ∧ c6 = c7 := by injection e7 with e1 _ e2; exact ⟨e1, e2⟩
      subst e
      have ht : (textsOf L 6).take (j + 1) = (textsOf L 6).take j ++ [(textsOf L 6)[j]] := List.take_succ_eq_append_getElem hlt
      have hlv : (((textsOf L 6).take j).map unrS).length = j := by rw [List.length_map, List.length_take]; omega
      generalize (textsOf L 6)[j] = x at x0 ht
      have HTK := Aside0.mk ht
      clear ht e7 hk7 hc7
      go_wp2_with fail
      clear x0
      go_region_law (first
        | (refine goes_ Try.func47 (by kernel_rfl) rfl #[.string x] (by rfl) rfl rfl (by simp [Act.eval, Act.put]) ?_
           refine (unr_any _ x).mono ?_
           rintro e w8 ⟨rfl, hb⟩
           have p8 := prev_call hb
           have s8 : wr.heap.size ≤ w8.heap.size := hb.size
           clear hb
           refine ⟨_, rfl, ?_⟩)
        | (refine Kd.R_append_step k81 (w0 := w5) w5.heap.size (by rfl) (.tmp 25) (.tmp 28) 40 81 (.agg Z81) 72 rfl Try.underlying40 infoB81 rfl (by decide) (by decide) v _ (unrS x) (L81 (unrS x)) (fun _ => True) (fun _ => False) (by simp [Act.eval, Act.put]) (by simp [Act.eval, Act.put]) (k81_mkM _ _ _ _) (fun _ hk => hk.elim) (fun _ _ => trivial) (rowK HV.out) ?aB ?aS (by rw [hlv]; omega) ?_
           (case aB => exact HB6.out.trans ((inferInstance : Bel w5.heap.size wr w8).out (by omega)))
           (case aS => omega)
           intro v1 w9 h9 hb9 hg9 hat9
           obtain ⟨A9, c9, rfl⟩ := Kd.R_slice h9
           have p9 := prev_grown hg9
           have ho : Kd.R k81 81 w8 w5.heap.size (fun _ => True) v _ := rowK HV.out
           have a9 : Apart w5.heap.size (touchOf v.ownBlock) := apart_R ho held (by decide)
           have b9 : Apart w.heap.size (touchOf v.ownBlock) := apart_R ho held (by decide)
           have n9 : NoRow (9 :: Kd.string.E) w8 (touchOf v.ownBlock) := noRow_R ho (by decide)
           have o9 : OwnB w.heap.size (touchOf v.ownBlock) := ownB_R ho (by omega)
           have e9 : (((textsOf L 6).take j).map unrS ++ [unrS x]).length = j + 1 := by rw [List.length_append, hlv]; rfl
           have t9 : ((textsOf L 6).take j).map unrS ++ [unrS x] = ((textsOf L 6).take (j + 1)).map unrS := by rw [HTK.out, List.map_append]; rfl
           rw [e9, t9] at h9
           have H9 := Aside0.mk h9
           clear e9 t9
           have HB9 := Aside0.mk hb9
           have n10 : NoRow (9 :: Kd.string.E) w9 (.row w5.heap.size) := noRow_row held (by decide)
           have n11 : NoRow (81 :: k81.E) w9 (.row w5.heap.size) := noRow_row held (by decide)
           have o11 : OwnB w.heap.size (.row w5.heap.size) := own_row (by omega)
           have a11 : Apart w.heap.size (.row w5.heap.size) := apart_ne (by omega)
           clear ho h9 hb9 hg9 hat9))
      all_goals
        go_wp2_with fail
        go_roundw
        case rel => exact ⟨j + 1, .slice A9 (j + 1) c9, by omega, by go_num, ⟨bel _ _⟩, ⟨held⟩, ⟨held⟩, ⟨rowK H9.out⟩, ⟨rowK HT.out⟩, ⟨HB9.out.setCell (Nat.le_refl _) _⟩⟩
        case measure => simp [intOf]; omega
    · have hv := HV.out
      rw [List.take_of_length_le (by omega)] at hv
      clear HV
      obtain ⟨Av, cv, rfl⟩ := Kd.R_slice hv
      generalize (List.map unrS (textsOf L 6)).length = n at hv H3
      have HV' := Aside0.mk hv
      clear hv h3
      go_wp2_with (first
        | (refine box_load rfl 42 (.tmp 3) rfl held rfl hu42 rfl info42 ?_)
        | (refine box_store rfl rfl 42 (.tmp 2) (.tmp 32) rfl held #[.int .i64 (getN L 1), .int .i64 (getN L 2), .int .i64 (getN L 3), .int .i64 (getN L 4), .string (getT L 5), .slice Av n cv] rfl rfl info42 (by rfl) (by rfl) ?_
           intro wz hxz hgz
           have pz := prev_row hgz
           have nz : NoRow (81 :: k81.E) wr (.row w.heap.size) := noRow_row held (by decide)
           have HZ := Aside0.mk hxz
           clear hxz hgz))
      refine bodyPost_ret (results_cell_row rfl _ _ w.heap.size 42 #[.int .i64 (getN L 1), .int .i64 (getN L 2), .int .i64 (getN L 3), .int .i64 (getN L 4), .string (getT L 5), .slice Av n cv] (0, 0) _ rfl HZ.out hu42 rfl info42) rfl ?_
      exact ⟨_, rfl, Kd.R_lower (rowK HV'.out) (by omega), bel _ _⟩
end Go.Proofs.Ytjaneipklpgnlaa.Q

namespace Go.Proofs.Ytjaneipklpgnlaa.Q
open Go Go.RowKit Go.Proofs.YtjaneipklpgnlaaK Go.Proofs.YtjaneipklpgnlaaW.PrintWords Go.Proofs.YtjaneipklpgnlaaW.PrintLast Go.Proofs.YtjaneipklpgnlaaW.PrintMore
set_option linter.unusedSimpArgs false
set_option linter.unusedVariables false
/-! ### An answer off its bytes -/
def ans0 : S42 := ⟨0, 0, 0, 0, ⟨#[]⟩, []⟩
def raS (s : ByteArray) : S42 × Int := if (decS s).2 = 0 then (if (ansS (ansOf (decS s).1)).2 = 0 ∧ (ansS (ansOf (decS s).1)).1.toList = s.toList then (ansOf (decS s).1, 0) else (ans0, 5)) else (ans0, 5)
/-- An answer with its list v. -/
abbrev ansW (a : S42) (v : Value) : Value := .agg #[.int .i64 a.f0, .int .i64 a.f1, .int .i64 a.f2, .int .i64 a.f3, .string a.f4, v]
theorem buildA_c (W : World) (v : Value) (L : List S84) (base : Nat) (hv : Kd.R k84 84 W base (fun _ => True) v L) (hl : L.length ≤ 1048576) :
    Calls Try.prog 45 #[v] W fun e w' => ∃ va, e = .returned (ansW (ansOf L) va) ∧ Kd.R k81 81 w' W.heap.size (fun _ => True) va (ansOf L).f5 ∧ Below W.heap.size W w' := by
  obtain ⟨A3, k3, he3, hk3, hc3⟩ := Kd.R_reads hv
  subst he3
  exact buildA_any W A3 k3 L hc3 hk3 hl
attribute [local go_sem] cell_held frozen_held
set_option maxRecDepth 100000 in
set_option maxHeartbeats 2000000 in
theorem readA_no (w : World) (s : ByteArray) (hd : (decS s).2 ≠ 0) :
    Calls Try.prog 44 #[.string s, .func (.func 45) #[] #[], .func (.func 17) #[] #[]] w fun e w' => ∃ v, e = .returned (.tuple #[ansW ans0 v, .int .i64 5]) ∧ Kd.R k81 81 w' w.heap.size (fun _ => True) v [] ∧ Below w.heap.size w w' := by
  have hu42 := Try.underlying42
  have h5 : decS s = ([], 5) := by rcases decS_total s with h | h; · exact absurd h hd
                                   · exact h
  have hc := fun W => field_Decode.calls s [] 5 W (by rw [dec_fn, h5])
  have HC := Aside0.mk hc
  clear hc h5 hd
  go_enter Try.func44, Try.ntmps44
  go_wp2_with (first
    | ((with_reducible refine gate_dst (N := 6) rfl ?_); refine new_event rfl (N := 6) rfl (ob := .cells Z42 42) (by go_simp; rfl) ?_; intro wa pa ha)
    | ((with_reducible refine gate_dst (N := 8) rfl ?_); refine new_event rfl (N := 8) rfl (ob := .cells Z42 42) (by go_simp; rfl) ?_; intro wb pb hb8))
  have hga := held_lt (W := wa) (g := w.heap.size)
  refine (HC.out _).mono ?_
  rintro e w1 ⟨v, rfl, hv, hb⟩
  have p1 := prev_call hb
  have HV := Aside0.mk hv
  have s1 := hb.size
  have sb : wa.heap.size ≤ wb.heap.size := pb.out.size
  clear hb hv
  go_wp2_with (first
    | (refine box_load rfl 42 (.tmp 8) rfl held rfl hu42 rfl info42 ?_)
    | (refine box_store rfl rfl 42 (.tmp 6) (.tmp 21) rfl held Z42 rfl rfl info42 (by rfl) (by rfl) ?_
       intro wz hxz hgz
       have pz := prev_row hgz
       have HZ := Aside0.mk hxz
       clear hxz hgz))
  refine bodyPost_ret (results_row_tmp rfl _ _ (.int .i64 5) HZ.out rfl rfl hu42 rfl info42) rfl ?_
  exact ⟨_, rfl, Kd.R_nil _ _ _ _ _, bel _ _⟩
set_option maxRecDepth 100000 in
set_option maxHeartbeats 4000000 in
theorem readA_yes (w : World) (s : ByteArray) (L : List S84) (hL : decS s = (L, 0)) (hl : L.length ≤ 1048576) (a : S42) (ha : ansOf L = a) (t : ByteArray) (e2 : Int) (hq : ansS a = (t, e2)) (ok : Bool) (hok : ok = true ↔ e2 = 0 ∧ t.toList = s.toList) :
    Calls Try.prog 44 #[.string s, .func (.func 45) #[] #[], .func (.func 17) #[] #[]] w fun e w' => ∃ v, e = .returned (.tuple #[ansW (if ok then a else ans0) v, .int .i64 (if ok then 0 else 5)]) ∧ Kd.R k81 81 w' w.heap.size (fun _ => True) v (if ok then a else ans0).f5 ∧ Below w.heap.size w w' := by
  have hu42 := Try.underlying42
  have hc := fun W => field_Decode.calls s L 0 W (by rw [dec_fn, hL])
  have HC := Aside0.mk hc
  have hbl := fun (W : World) (v : Value) (base : Nat) (h : Kd.R k84 84 W base (fun _ => True) v L) => buildA_c W v L base h hl
  rw [ha] at hbl
  have HBL := Aside0.mk hbl
  have han := fun (W : World) (A : Option Addr) (c : Nat) (h : k81.C W A a.f5.length a.f5) => answer_any W a A c h
  rw [hq] at han
  have HAN := Aside0.mk han
  clear hc hbl han hq ha hL hl
  have HOK := Aside0.mk hok
  clear hok
  by_cases h2 : e2 = 0
  · subst h2
    by_cases h3 : t.toList = s.toList
    · have hk : ok = true := HOK.out.2 ⟨rfl, h3⟩
      subst hk
      clear HOK
      have h3a : (t.toList == s.toList) = true := beq_iff_eq.mpr h3
      have h3b : (t.toList != s.toList) = false := bne_eq_false_iff_eq.mpr h3
      clear h3
      go_enter Try.func44, Try.ntmps44
      go_wp2_with (first
        | ((with_reducible refine gate_dst (N := 6) rfl ?_); refine new_event rfl (N := 6) rfl (ob := .cells Z42 42) (by go_simp; rfl) ?_; intro wa pa ha)
        | ((with_reducible refine gate_dst (N := 8) rfl ?_); refine new_event rfl (N := 8) rfl (ob := .cells Z42 42) (by go_simp; rfl) ?_; intro wb pb hb8))
      have hga := held_lt (W := wa) (g := w.heap.size)
      refine (HC.out _).mono ?_
      rintro e w1 ⟨v, rfl, hv, hb⟩
      have p1 := prev_call hb
      have HV := Aside0.mk hv
      have s1 := hb.size
      have sb : wa.heap.size ≤ wb.heap.size := pb.out.size
      clear hb hv
      go_wp2_with fail
      refine (HBL.out _ _ _ (rowK HV.out)).mono ?_
      rintro e w2 ⟨va, rfl, hva, hb⟩
      have p2 := prev_call hb
      have s2 := hb.size
      obtain ⟨Av, cv, hve, hcv, hCv⟩ := Kd.R_reads hva
      subst hve
      have HVA := Aside0.mk hva
      clear hb hva hcv hCv
      go_wp2_with fail
      refine (HAN.out _ Av cv ?hC).mono ?_
      case hC => exact (Kd.R_reads' (Kd.R_alloc HVA.out _)).2.2
      rintro e w3 ⟨rfl, hb⟩
      have p3 := prev_call hb
      clear hb
      go_wp2_with (first
        | (refine box_load rfl 42 (.tmp 11) rfl held rfl hu42 rfl info42 ?_)
        | (refine box_store rfl rfl 42 (.tmp 6) (.tmp 39) rfl held #[.int .i64 a.f0, .int .i64 a.f1, .int .i64 a.f2, .int .i64 a.f3, .string a.f4, .slice Av a.f5.length cv] rfl rfl info42 (by rfl) (by rfl) ?_
           intro wz hxz hgz
           have pz := prev_row hgz
           have nz : NoRow (81 :: k81.E) w3 (.row w.heap.size) := noRow_row held (by decide)
           have HZ := Aside0.mk hxz
           clear hxz hgz))
      refine bodyPost_ret (results_row_tmp rfl _ _ (.int .i64 0) HZ.out rfl rfl hu42 rfl info42) rfl ?_
      exact ⟨_, rfl, Kd.R_lower (rowK HVA.out) (by omega), bel _ _⟩
    · have hk : ok = false := by cases ok with | false => rfl | true => exact absurd (HOK.out.1 rfl).2 h3
      subst hk
      clear HOK
      have h3a : (t.toList == s.toList) = false := beq_eq_false_iff_ne.mpr h3
      have h3b : (t.toList != s.toList) = true := bne_iff_ne.mpr h3
      clear h3
      go_enter Try.func44, Try.ntmps44
      go_wp2_with (first
        | ((with_reducible refine gate_dst (N := 6) rfl ?_); refine new_event rfl (N := 6) rfl (ob := .cells Z42 42) (by go_simp; rfl) ?_; intro wa pa ha)
        | ((with_reducible refine gate_dst (N := 8) rfl ?_); refine new_event rfl (N := 8) rfl (ob := .cells Z42 42) (by go_simp; rfl) ?_; intro wb pb hb8))
      have hga := held_lt (W := wa) (g := w.heap.size)
      refine (HC.out _).mono ?_
      rintro e w1 ⟨v, rfl, hv, hb⟩
      have p1 := prev_call hb
      have HV := Aside0.mk hv
      have s1 := hb.size
      have sb : wa.heap.size ≤ wb.heap.size := pb.out.size
      clear hb hv
      go_wp2_with fail
      refine (HBL.out _ _ _ (rowK HV.out)).mono ?_
      rintro e w2 ⟨va, rfl, hva, hb⟩
      have p2 := prev_call hb
      have s2 := hb.size
      obtain ⟨Av, cv, hve, hcv, hCv⟩ := Kd.R_reads hva
      subst hve
      have HVA := Aside0.mk hva
      clear hb hva hcv hCv
      go_wp2_with fail
      refine (HAN.out _ Av cv ?hC).mono ?_
      case hC => exact (Kd.R_reads' (Kd.R_alloc HVA.out _)).2.2
      rintro e w3 ⟨rfl, hb⟩
      have p3 := prev_call hb
      clear hb
      go_wp2_with (first
        | (refine box_load rfl 42 (.tmp 8) rfl held rfl hu42 rfl info42 ?_)
        | (refine box_store rfl rfl 42 (.tmp 6) (.tmp 38) rfl held Z42 rfl rfl info42 (by rfl) (by rfl) ?_
           intro wz hxz hgz
           have pz := prev_row hgz
           have HZ := Aside0.mk hxz
           clear hxz hgz))
      refine bodyPost_ret (results_row_tmp rfl _ _ (.int .i64 5) HZ.out rfl rfl hu42 rfl info42) rfl ?_
      exact ⟨_, rfl, Kd.R_nil _ _ _ _ _, bel _ _⟩
  · have hk : ok = false := by cases ok with | false => rfl | true => exact absurd (HOK.out.1 rfl).1 h2
    subst hk
    clear HOK
    have h2a : (e2 == 0) = false := beq_eq_false_iff_ne.mpr h2
    have h2b : (e2 != 0) = true := bne_iff_ne.mpr h2
    clear h2
    go_enter Try.func44, Try.ntmps44
    go_wp2_with (first
      | ((with_reducible refine gate_dst (N := 6) rfl ?_); refine new_event rfl (N := 6) rfl (ob := .cells Z42 42) (by go_simp; rfl) ?_; intro wa pa ha)
      | ((with_reducible refine gate_dst (N := 8) rfl ?_); refine new_event rfl (N := 8) rfl (ob := .cells Z42 42) (by go_simp; rfl) ?_; intro wb pb hb8))
    have hga := held_lt (W := wa) (g := w.heap.size)
    refine (HC.out _).mono ?_
    rintro e w1 ⟨v, rfl, hv, hb⟩
    have p1 := prev_call hb
    have HV := Aside0.mk hv
    have s1 := hb.size
    have sb : wa.heap.size ≤ wb.heap.size := pb.out.size
    clear hb hv
    go_wp2_with fail
    refine (HBL.out _ _ _ (rowK HV.out)).mono ?_
    rintro e w2 ⟨va, rfl, hva, hb⟩
    have p2 := prev_call hb
    have s2 := hb.size
    obtain ⟨Av, cv, hve, hcv, hCv⟩ := Kd.R_reads hva
    subst hve
    have HVA := Aside0.mk hva
    clear hb hva hcv hCv
    go_wp2_with fail
    refine (HAN.out _ Av cv ?hC).mono ?_
    case hC => exact (Kd.R_reads' (Kd.R_alloc HVA.out _)).2.2
    rintro e w3 ⟨rfl, hb⟩
    have p3 := prev_call hb
    clear hb
    go_wp2_with (first
      | (refine box_load rfl 42 (.tmp 8) rfl held rfl hu42 rfl info42 ?_)
      | (refine box_store rfl rfl 42 (.tmp 6) (.tmp 38) rfl held Z42 rfl rfl info42 (by rfl) (by rfl) ?_
         intro wz hxz hgz
         have pz := prev_row hgz
         have HZ := Aside0.mk hxz
         clear hxz hgz))
    refine bodyPost_ret (results_row_tmp rfl _ _ (.int .i64 5) HZ.out rfl rfl hu42 rfl info42) rfl ?_
    exact ⟨_, rfl, Kd.R_nil _ _ _ _ _, bel _ _⟩
theorem readA_any (w : World) (s : ByteArray) :
    Calls Try.prog 44 #[.string s, .func (.func 45) #[] #[], .func (.func 17) #[] #[]] w fun e w' => ∃ v, e = .returned (.tuple #[ansW (raS s).1 v, .int .i64 (raS s).2]) ∧ Kd.R k81 81 w' w.heap.size (fun _ => True) v (raS s).1.f5 ∧ Below w.heap.size w w' := by
  have hl := dec_len s
  obtain ⟨L, e1, hL⟩ : ∃ L e1, decS s = (L, e1) := ⟨_, _, rfl⟩
  unfold raS
  by_cases hd : (decS s).2 = 0
  · rw [if_pos hd]
    rw [hL] at hd hl ⊢
    simp only at hd hl ⊢
    subst hd
    obtain ⟨t, e2, hq⟩ : ∃ t e2, ansS (ansOf L) = (t, e2) := ⟨_, _, rfl⟩
    have H := readA_yes w s L hL hl _ rfl t e2 hq (decide (e2 = 0 ∧ t.toList = s.toList)) decide_eq_true_iff
    rw [hq]
    by_cases hk : e2 = 0 ∧ t.toList = s.toList
    · rw [if_pos hk]
      rw [decide_eq_true hk] at H
      exact H
    · rw [if_neg hk]
      rw [decide_eq_false hk] at H
      exact H
  · have H := readA_no w s hd
    rw [if_neg hd]
    exact H
set_option maxRecDepth 100000 in
set_option maxHeartbeats 2000000 in
theorem ra_any (w : World) (s : ByteArray) : Calls Try.prog 19 #[.string s] w fun e w' => ∃ v, e = .returned (.tuple #[ansW (raS s).1 v, .int .i64 (raS s).2]) ∧ Kd.R k81 81 w' w.heap.size (fun _ => True) v (raS s).1.f5 ∧ Below w.heap.size w w' := by
  have hu42 := Try.underlying42
  have hc := fun W => readA_any W s
  obtain ⟨a, q, hq⟩ : ∃ a q, raS s = (a, q) := ⟨_, _, rfl⟩
  rw [hq] at hc ⊢
  have HC := Aside0.mk hc
  clear hc hq
  go_enter Try.func19, Try.ntmps19
  go_wp2_with ((with_reducible refine gate_dst (N := 2) rfl ?_); refine new_event rfl (N := 2) rfl (ob := .cells Z42 42) (by go_simp; rfl) ?_; intro wa pa ha)
  refine (HC.out _).mono ?_
  rintro e w1 ⟨v, rfl, hv, hb⟩
  have p1 := prev_call hb
  have sa : w.heap.size ≤ wa.heap.size := pa.out.size
  obtain ⟨Av, cv, rfl⟩ := Kd.R_slice hv
  have HV := Aside0.mk hv
  clear hb hv
  go_wp2_with (refine box_store rfl rfl 42 (.tmp 2) (.tmp 6) rfl held #[.int .i64 a.f0, .int .i64 a.f1, .int .i64 a.f2, .int .i64 a.f3, .string a.f4, .slice Av a.f5.length cv] rfl rfl info42 (by rfl) (by rfl) ?_
               intro wz hxz hgz
               have pz := prev_row hgz
               have nz : NoRow (81 :: k81.E) w1 (.row w.heap.size) := noRow_row held (by decide)
               have HZ := Aside0.mk hxz
               clear hxz hgz)
  refine bodyPost_ret (results_row_tmp rfl _ _ (.int .i64 q) HZ.out rfl rfl hu42 rfl info42) rfl ?_
  exact ⟨_, rfl, Kd.R_lower (rowK HV.out) (by omega), bel _ _⟩
end Go.Proofs.Ytjaneipklpgnlaa.Q

namespace Go.Proofs.Ytjaneipklpgnlaa.Q
open Go Go.RowKit Go.Proofs.YtjaneipklpgnlaaK Go.Proofs.YtjaneipklpgnlaaW.PrintWords Go.Proofs.YtjaneipklpgnlaaW.PrintLast Go.Proofs.YtjaneipklpgnlaaW.PrintMore
set_option linter.unusedSimpArgs false
set_option linter.unusedVariables false
/-! ### Are changes, answers, alike -/
def eqC (x y : S81) : Bool := x.f0 == y.f0 && (x.f1.toList == y.f1.toList && (x.f2 == y.f2 && (x.f3 == y.f3 && x.f4.l == y.f4.l)))
theorem A81_cut (x : S81) : ((A81 x).extract 4 36).toList = sumL x.f4 := by
  have h := sumL_len x.f4
  simp [A81, L81, List.extract]
  rw [List.take_of_length_le (by omega)]
theorem part79 (w : World) (xs : Array Value) : (part 79 xs 4).run Try.prog w = .ok (.agg (xs.extract 4 36)) w := by
  obtain ⟨i, hi, hs⟩ := Option.map_eq_some_iff.1 info79
  unfold part isAgg
  simp [Sem.run_bind, run_underlying Try.underlying79, sizeOf, typeInfo, hi, hs]
attribute [local go_sem] A81_size A81_0 A81_1 A81_2 A81_3 A81_g0 A81_g1 A81_g2 A81_g3 cell_held frozen_held
theorem eqA81 (d : Nat) (w : World) (x y : S81) : (Op.equalIn (d + 3) 81 (.agg (A81 x)) (.agg (A81 y))).run Try.prog w = .ok (eqC x y) w := by
  obtain ⟨i0, hi, _⟩ := info_parts info5
  refine eqA_of Try.underlying81 (by kernel_rfl) ?_
  refine eqf_cons (by rfl) (by go_simp; rfl) (by go_simp; rfl) (by go_simp) ?_
  refine eqf_cons (by rfl) (by go_simp; rfl) (by go_simp; rfl) (by go_simp) ?_
  refine eqf_cons (by rfl) (by go_simp; rfl) (by go_simp; rfl) (by go_simp) ?_
  refine eqf_cons (by rfl) (by go_simp; rfl) (by go_simp; rfl) (by go_simp) ?_
  exact eqf_last (by rfl) (part79 _ _) (part79 _ _) (eq_sum d Try.underlying79 Try.underlying5 (by kernel_rfl) hi _ _ x.f4 y.f4 (A81_cut x) (A81_cut y))
theorem eqC_iff (x y : S81) : eqC x y = true ↔ x = y := by
  obtain ⟨x0, x1, x2, x3, x4⟩ := x
  obtain ⟨y0, y1, y2, y3, y4⟩ := y
  simp only [eqC, Bool.and_eq_true, beq_iff_eq, S81.mk.injEq]
  constructor
  · rintro ⟨h0, h1, h2, h3, h4⟩
    refine ⟨h0, ?_, h2, h3, Sum.eq h4⟩
    rw [ByteArray.toList_eq, ByteArray.toList_eq] at h1
    exact Go.WideShapes.bytes_inj h1
  · rintro ⟨rfl, rfl, rfl, rfl, rfl⟩
    exact ⟨rfl, rfl, rfl, rfl, rfl⟩
/-- A change lies at ad. -/
class Loads (W : World) (ad : Addr) (x : outParam S81) : Prop where
  out : At W ad (L81 x)
instance (W : World) (ad : Addr) (x : S81) [h : Loads W ad x] : Loads W.drew ad x := ⟨h.out⟩
instance (W : World) (n : Nat) (ad : Addr) (x : S81) [h : Loads W ad x] : Loads (W.drewN n) ad x := ⟨At_below h.out (pw_below_drewN (Below.refl _ _) n)⟩
theorem load81 {W : World} {ad : Addr} {x : S81} [h : Loads W ad x] : (loadVar 81 ad).run Try.prog W = .ok (.agg (A81 x)) W :=
  run_loadVar_at h.out Try.underlying81 rfl (by rw [L81_len]; exact info81)
attribute [local go_sem ↓] load81
attribute [local go_sem high] eqA81
def sameC : List S81 → List S81 → Bool
  | [], [] => true
  | x :: l, y :: m => eqC x y && sameC l m
  | _, _ => false
theorem sameC_iff (l : List S81) : ∀ m, sameC l m = true ↔ l = m := by
  induction l with
  | nil => intro m; cases m <;> simp [sameC]
  | cons x l ih => intro m; cases m <;> simp [sameC, eqC_iff, ih]
theorem sameC_len (l : List S81) : ∀ m, l.length ≠ m.length → sameC l m = false := by
  intro m h
  rw [Bool.eq_false_iff]
  intro e
  rw [sameC_iff] at e
  exact h (by rw [e])
set_option maxRecDepth 100000 in
set_option maxHeartbeats 2000000 in
theorem same_any (w : World) (A B : Option Addr) (c d : Nat) (l m : List S81) (hA : k81.C w A l.length l) (hB : k81.C w B m.length m) (hl : l.length ≤ 1048576) (hm : m.length ≤ 1048576) :
    Calls Try.prog 52 #[.slice A l.length c, .slice B m.length d] w fun e w' => e = .returned (.bool (sameC l m)) ∧ Below w.heap.size w w' := by
  have HA := Aside0.mk hA
  have HB := Aside0.mk hB
  clear hA hB
  by_cases hlm : l.length = m.length
  · have hlb : ((l.length : Int) == (m.length : Int)) = true := beq_iff_eq.mpr (by omega)
    have HS := Aside0.mk (Below.refl w.heap.size w)
    have HLM := Aside0.mk hlm
    rw [← hlm]
    clear hlm hm hlb
    go_enter Try.func52, Try.ntmps52
    go_wp2_with fail
    go_loopw [5] (fun i wr => ∃ j : Nat, j ≤ l.length ∧ i = .int .i64 (j : Int) ∧ Aside0 (sameC (l.drop j) (m.drop j) = sameC l m) ∧ Aside0 (Below w.heap.size w wr)) (fun i _ => l.length - (intOf i).toNat)
    case atStart => exact ⟨0, Nat.zero_le _, rfl, ⟨rfl⟩, HS⟩
    case round =>
      obtain ⟨j, hj, rfl, HI, HBr⟩ := hrel
      have pr := prev_above HBr.out
      by_cases hlt : j < l.length
      · have hlt2 : j < m.length := by have := HLM.out; omega
        obtain ⟨ad, e, x0⟩ := C81_at HA.out j hlt
        subst e
        obtain ⟨bd, e, y0⟩ := C81_at HB.out j hlt2
        subst e
        have hI := HI.out
        rw [List.drop_eq_getElem_cons hlt, List.drop_eq_getElem_cons hlt2] at hI
        generalize l[j] = x at x0 hI
        generalize m[j] = y at y0 hI
        have X : Loads wr (ad.add (j * 36)) x := ⟨At_below x0 HBr.out⟩
        have Y : Loads wr (bd.add (j * 36)) y := ⟨At_below y0 HBr.out⟩
        clear x0 y0 hlt2
        simp only [sameC] at hI
        cases hq : eqC x y
        · rw [hq, Bool.false_and] at hI
          have HI' := Aside0.mk hI
          clear hI HI
          go_wp2_with fail
          refine wp_region_quiet_lit (by kernel_rfl) (by kernel_rfl) ?_
          quiet_step (fail)
          quiet_step (fail)
          quiet_step (fail)
          refine wpQuiet_step (fun K hK => ?_)
          refine quiet_load (ad := ad.add (j * 36)) (by rfl) 81 (.tmp 19) rfl (A81 x) rfl (fun w h => by obtain ⟨n, rfl⟩ := h; exact Loads.out) (by rfl) Try.underlying81 rfl (by rw [L81_len]; exact info81) ?_
          refine hK _ ?_
          clear hK K
          quiet_step (fail)
          quiet_step (fail)
          quiet_step (fail)
          refine wpQuiet_step (fun K hK => ?_)
          refine quiet_load (ad := bd.add (j * 36)) (by rfl) 81 (.tmp 23) rfl (A81 y) rfl (fun w h => by obtain ⟨n, rfl⟩ := h; exact Loads.out) (by rfl) Try.underlying81 rfl (by rw [L81_len]; exact info81) ?_
          refine hK _ ?_
          clear hK K
          quiet_step (fail)
          refine wpQuiet_nil ?_
          rintro _ ⟨nq, rfl⟩
          go_wp2_with fail
          go_ret
          exact ⟨by rw [← HI'.out]; rfl, bel _ _⟩
        · rw [hq, Bool.true_and] at hI
          have HI' := Aside0.mk hI
          clear hI HI
          go_wp2_with fail
          refine wp_region_quiet_lit (by kernel_rfl) (by kernel_rfl) ?_
          quiet_step (fail)
          quiet_step (fail)
          quiet_step (fail)
          refine wpQuiet_step (fun K hK => ?_)
          refine quiet_load (ad := ad.add (j * 36)) (by rfl) 81 (.tmp 19) rfl (A81 x) rfl (fun w h => by obtain ⟨n, rfl⟩ := h; exact Loads.out) (by rfl) Try.underlying81 rfl (by rw [L81_len]; exact info81) ?_
          refine hK _ ?_
          clear hK K
          quiet_step (fail)
          quiet_step (fail)
          quiet_step (fail)
          refine wpQuiet_step (fun K hK => ?_)
          refine quiet_load (ad := bd.add (j * 36)) (by rfl) 81 (.tmp 23) rfl (A81 y) rfl (fun w h => by obtain ⟨n, rfl⟩ := h; exact Loads.out) (by rfl) Try.underlying81 rfl (by rw [L81_len]; exact info81) ?_
          refine hK _ ?_
          clear hK K
          quiet_step (fail)
          refine wpQuiet_nil ?_
          rintro _ ⟨nq, rfl⟩
          go_wp2_with fail
          go_roundw
          case rel => exact ⟨j + 1, by omega, by go_num, HI', ⟨bel _ _⟩⟩
          case measure => simp [intOf]; omega
      · have hI := HI.out
        rw [List.drop_of_length_le (by omega), List.drop_of_length_le (by have := HLM.out; omega)] at hI
        have HI' := Aside0.mk hI
        clear hI HI
        go_wp2_with fail
        go_ret
        exact ⟨by rw [← HI'.out]; rfl, bel _ _⟩
  · rw [sameC_len l m hlm]
    have hlb : ((l.length : Int) == (m.length : Int)) = false := beq_eq_false_iff_ne.mpr (by omega)
    clear hlm
    go_enter Try.func52, Try.ntmps52
    go_wp2_with fail
    go_ret
    exact ⟨rfl, bel _ _⟩
def sameA (a b : S42) : Bool := a.f0 == b.f0 && (a.f1 == b.f1 && (a.f2 == b.f2 && (a.f3 == b.f3 && (a.f4.toList == b.f4.toList && sameC a.f5 b.f5))))
theorem sameA_iff (a b : S42) : sameA a b = true ↔ a = b := by
  obtain ⟨a0, a1, a2, a3, a4, a5⟩ := a
  obtain ⟨b0, b1, b2, b3, b4, b5⟩ := b
  simp only [sameA, Bool.and_eq_true, beq_iff_eq, S42.mk.injEq, sameC_iff]
  constructor
  · rintro ⟨h0, h1, h2, h3, h4, h5⟩
    rw [ByteArray.toList_eq, ByteArray.toList_eq] at h4
    exact ⟨h0, h1, h2, h3, Go.WideShapes.bytes_inj h4, h5⟩
  · rintro ⟨rfl, rfl, rfl, rfl, rfl, rfl⟩
    exact ⟨rfl, rfl, rfl, rfl, rfl, rfl⟩
set_option maxRecDepth 100000 in
set_option maxHeartbeats 4000000 in
theorem sameA_any (w : World) (a b : S42) (A B : Option Addr) (c d : Nat) (hA : k81.C w A a.f5.length a.f5) (hB : k81.C w B b.f5.length b.f5) (hl : a.f5.length ≤ 1048576) (hm : b.f5.length ≤ 1048576) :
    Calls Try.prog 23 #[ansV a A c, ansV b B d] w fun e w' => e = .returned (.bool (sameA a b)) ∧ Below w.heap.size w w' := by
  have hu42 := Try.underlying42
  have HA := Aside0.mk hA
  have HB := Aside0.mk hB
  clear hA hB
  unfold sameA
  cases h0 : (a.f0 == b.f0)
  · rw [Bool.false_and]
    go_enter Try.func23, Try.ntmps23
    go_wp2_with fail
    go_ret
    exact ⟨rfl, bel _ _⟩
  · rw [Bool.true_and]
    cases h1 : (a.f1 == b.f1)
    · rw [Bool.false_and]
      go_enter Try.func23, Try.ntmps23
      go_wp2_with fail
      go_ret
      exact ⟨rfl, bel _ _⟩
    · rw [Bool.true_and]
      cases h2 : (a.f2 == b.f2)
      · rw [Bool.false_and]
        go_enter Try.func23, Try.ntmps23
        go_wp2_with fail
        go_ret
        exact ⟨rfl, bel _ _⟩
      · rw [Bool.true_and]
        cases h3 : (a.f3 == b.f3)
        · rw [Bool.false_and]
          go_enter Try.func23, Try.ntmps23
          go_wp2_with fail
          go_ret
          exact ⟨rfl, bel _ _⟩
        · rw [Bool.true_and]
          cases h4 : (a.f4.toList == b.f4.toList)
          · rw [Bool.false_and]
            go_enter Try.func23, Try.ntmps23
            go_wp2_with fail
            go_ret
            exact ⟨rfl, bel _ _⟩
          · rw [Bool.true_and]
            go_enter Try.func23, Try.ntmps23
            go_wp2_with fail
            refine (same_any _ A B c d a.f5 b.f5 ?hA ?hB hl hm).mono ?_
            case hA => exact Kd.C_below HA.out (bel _ _)
            case hB => exact Kd.C_below HB.out (bel _ _)
            rintro e w1 ⟨rfl, hb⟩
            have p1 := prev_call hb
            clear hb
            go_wp2_with fail
            go_ret
            exact ⟨rfl, bel _ _⟩
end Go.Proofs.Ytjaneipklpgnlaa.Q

namespace Go.Proofs.Ytjaneipklpgnlaa.Q
open Go Go.RowKit Go.Proofs.YtjaneipklpgnlaaK Go.Proofs.YtjaneipklpgnlaaW.PrintWords Go.Proofs.YtjaneipklpgnlaaW.PrintLast Go.Proofs.YtjaneipklpgnlaaW.PrintMore
set_option linter.unusedSimpArgs false
set_option linter.unusedVariables false
/-! ### What is written of a change, of an answer, is read as it was -/
theorem rec_enc (c : S81) (h : (recS c).2 = 0) : encGo (recL c) 0 [] = ((recS c).1, 0) := by
  unfold recS at h ⊢
  split at h
  · simp at h
  · rename_i hn
    rw [if_neg hn]
    exact Prod.ext rfl h
theorem sumOf_sumS (s : Sum) : sumOf (sumS s) = s := by
  apply Sum.eq
  simp only [sumOf, sumS]
  rw [List.take_append_of_le_length (by rw [s.h]; exact Nat.le_refl _), List.take_of_length_le (by rw [s.h]; exact Nat.le_refl _)]
theorem sumOf_nil : sumOf ⟨#[]⟩ = sum0 := by
  apply Sum.eq
  rfl
theorem getT_none {L : List S84} {t : Int} (h : ∀ f ∈ L, f.f0 ≠ t) : getT L t = ⟨#[]⟩ := by
  unfold getT textsOf
  rw [none_of h]
  rfl
theorem unrL_recL (c : S81) (h : chgOk c = true) : unrL (recL c) = c := by
  obtain ⟨k, s, g, n, m⟩ := c
  unfold chgOk at h
  simp only [Bool.and_eq_true, Bool.or_eq_true] at h
  have hg := h.2
  have t1 := layN1_tags 1 k
  have t2 := layT1_tags 2 s
  have t4 := layN1_tags 4 n
  cases g
  · have t3 := layN1_tags 3 0
    have t5 := layT1_tags 5 (sumS m)
    have hL : recL ⟨k, s, false, n, m⟩ = layN 1 [k] ++ (layT 2 [s] ++ (layN 3 [0] ++ (layN 4 [n] ++ (layT 5 [sumS m] ++ [])))) := by
      simp only [recL, layN, layT, List.append_nil, List.append_assoc]
      rfl
    have B5 : tagsIn 6 64 ([] : List S84) := tagsIn_nil _ _
    have B4 := tagsIn_append (lo := 5) (hi := 64) (tagsIn_mono t5 (by omega) (by omega)) (tagsIn_mono B5 (by omega) (by omega))
    have B3 := tagsIn_append (lo := 4) (hi := 64) (tagsIn_mono t4 (by omega) (by omega)) (tagsIn_mono B4 (by omega) (by omega))
    have B2 := tagsIn_append (lo := 3) (hi := 64) (tagsIn_mono t3 (by omega) (by omega)) (tagsIn_mono B3 (by omega) (by omega))
    have B1 := tagsIn_append (lo := 2) (hi := 64) (tagsIn_mono t2 (by omega) (by omega)) (tagsIn_mono B2 (by omega) (by omega))
    rw [hL]
    unfold unrL
    rw [getN_lay (tags_ne B1 (by omega)),
      getT_skip (tags_ne t1 (by omega)), getT_lay (tags_ne B2 (by omega)),
      getN_skip (tags_ne t1 (by omega)), getN_skip (tags_ne t2 (by omega)), getN_lay (tags_ne B3 (by omega)),
      getN_skip (tags_ne t1 (by omega)), getN_skip (tags_ne t2 (by omega)), getN_skip (tags_ne t3 (by omega)), getN_lay (tags_ne B4 (by omega)),
      getT_skip (tags_ne t1 (by omega)), getT_skip (tags_ne t2 (by omega)), getT_skip (tags_ne t3 (by omega)), getT_skip (tags_ne t4 (by omega)), getT_lay (tags_ne B5 (by omega)), sumOf_sumS]
    rfl
  · have t3 := layN1_tags 3 1
    have hm : m = sum0 := by
      simp only [Bool.not_true, Bool.false_eq_true, false_or, Bool.and_eq_true, beq_iff_eq] at hg
      exact Sum.eq hg.2
    subst hm
    have hL : recL ⟨k, s, true, n, sum0⟩ = layN 1 [k] ++ (layT 2 [s] ++ (layN 3 [1] ++ (layN 4 [n] ++ []))) := by
      simp only [recL, layN, layT, List.append_nil, List.append_assoc, if_pos, if_true, ite_true]
      rfl
    have B4 : tagsIn 5 64 ([] : List S84) := tagsIn_nil _ _
    have B3 := tagsIn_append (lo := 4) (hi := 64) (tagsIn_mono t4 (by omega) (by omega)) (tagsIn_mono B4 (by omega) (by omega))
    have B2 := tagsIn_append (lo := 3) (hi := 64) (tagsIn_mono t3 (by omega) (by omega)) (tagsIn_mono B3 (by omega) (by omega))
    have B1 := tagsIn_append (lo := 2) (hi := 64) (tagsIn_mono t2 (by omega) (by omega)) (tagsIn_mono B2 (by omega) (by omega))
    rw [hL]
    unfold unrL
    rw [getN_lay (tags_ne B1 (by omega)),
      getT_skip (tags_ne t1 (by omega)), getT_lay (tags_ne B2 (by omega)),
      getN_skip (tags_ne t1 (by omega)), getN_skip (tags_ne t2 (by omega)), getN_lay (tags_ne B3 (by omega)),
      getN_skip (tags_ne t1 (by omega)), getN_skip (tags_ne t2 (by omega)), getN_skip (tags_ne t3 (by omega)), getN_lay (tags_ne B4 (by omega)),
      getT_skip (tags_ne t1 (by omega)), getT_skip (tags_ne t2 (by omega)), getT_skip (tags_ne t3 (by omega)), getT_skip (tags_ne t4 (by omega)), getT_none (by simp), sumOf_nil]
    rfl
theorem unr_rec (c : S81) (h : chgOk c = true) (h0 : (recS c).2 = 0) : unrS (recS c).1 = c := by
  have hd : decS (recS c).1 = (recL c, 0) := (dec_enc _ _).2 (rec_enc c h0)
  unfold unrS
  rw [hd]
  exact unrL_recL c h
/-- An answer's fields. -/
def ansL (a : S42) : List S84 := ansL0 a ++ a.f5.map fun c => fldT 6 (recS c).1
theorem ansGo_ok (l : List S81) : ∀ L : List S84, (ansGo l L).2 = 0 → (∀ c ∈ l, (recS c).2 = 0) ∧ encGo (L ++ l.map fun c => fldT 6 (recS c).1) 0 [] = ((ansGo l L).1, 0) := by
  induction l with
  | nil =>
    intro L h
    refine ⟨by simp, ?_⟩
    simp only [List.map_nil, List.append_nil]
    exact Prod.ext rfl h
  | cons c l ih =>
    intro L h
    simp only [ansGo] at h ⊢
    by_cases hc : (recS c).2 = 0
    · rw [if_pos hc] at h ⊢
      obtain ⟨h1, h2⟩ := ih _ h
      refine ⟨?_, ?_⟩
      · intro d hd
        rcases List.mem_cons.1 hd with rfl | hd
        · exact hc
        · exact h1 d hd
      · rw [List.append_assoc] at h2
        exact h2
    · rw [if_neg hc] at h
      exact absurd h hc
theorem ans_ok (a : S42) (h : (ansS a).2 = 0) : ansOk a = true := by
  cases hk : ansOk a with
  | true => rfl
  | false =>
    unfold ansS at h
    rw [hk] at h
    simp at h
theorem ans_enc (a : S42) (h : (ansS a).2 = 0) : (∀ c ∈ a.f5, (recS c).2 = 0) ∧ encGo (ansL a) 0 [] = ((ansS a).1, 0) := by
  have hk := ans_ok a h
  unfold ansS at h ⊢
  rw [if_pos hk] at h ⊢
  exact ansGo_ok a.f5 (ansL0 a) h
theorem texts_skip {A B : List S84} {t : Int} (h : ∀ f ∈ A, f.f0 ≠ t) : textsOf (A ++ B) t = textsOf B t := by
  unfold textsOf
  rw [List.filter_append, none_of h, List.nil_append]
theorem texts_all (l : List S81) : textsOf (l.map fun c => fldT 6 (recS c).1) 6 = l.map fun c => (recS c).1 := by
  unfold textsOf
  rw [List.filter_eq_self.2]
  · rw [List.map_map]
    rfl
  · intro f hf
    obtain ⟨c, _, rfl⟩ := List.mem_map.1 hf
    rfl
theorem ansOf_ansL (a : S42) (hk : ansOk a = true) (hr : ∀ c ∈ a.f5, (recS c).2 = 0) : ansOf (ansL a) = a := by
  have hc : ∀ c ∈ a.f5, chgOk c = true := by
    unfold ansOk at hk
    simp only [Bool.and_eq_true, Bool.not_eq_true', List.any_eq_false, Bool.not_eq_true', Bool.not_eq_false] at hk
    intro c h
    have := hk.2 c h
    simpa using this
  obtain ⟨k, x, y, z, s, l⟩ := a
  have hL : ansL ⟨k, x, y, z, s, l⟩ = layN 1 [k] ++ (layN 2 [x] ++ (layN 3 [y] ++ (layN 4 [z] ++ (layT 5 [s] ++ (l.map fun c => fldT 6 (recS c).1))))) := by
    simp only [ansL, ansL0, layN, layT, List.append_nil, List.append_assoc]
    rfl
  have t1 := layN1_tags 1 k
  have t2 := layN1_tags 2 x
  have t3 := layN1_tags 3 y
  have t4 := layN1_tags 4 z
  have t5 := layT1_tags 5 s
  have B5 : tagsIn 6 64 (l.map fun c => fldT 6 (recS c).1) := by
    intro f hf
    obtain ⟨c, _, rfl⟩ := List.mem_map.1 hf
    show (6 : Int) ≤ 6 ∧ (6 : Int) < 64
    omega
  have B4 := tagsIn_append (lo := 5) (hi := 64) (tagsIn_mono t5 (by omega) (by omega)) (tagsIn_mono B5 (by omega) (by omega))
  have B3 := tagsIn_append (lo := 4) (hi := 64) (tagsIn_mono t4 (by omega) (by omega)) (tagsIn_mono B4 (by omega) (by omega))
  have B2 := tagsIn_append (lo := 3) (hi := 64) (tagsIn_mono t3 (by omega) (by omega)) (tagsIn_mono B3 (by omega) (by omega))
  have B1 := tagsIn_append (lo := 2) (hi := 64) (tagsIn_mono t2 (by omega) (by omega)) (tagsIn_mono B2 (by omega) (by omega))
  rw [hL]
  unfold ansOf
  rw [getN_lay (tags_ne B1 (by omega)),
    getN_skip (tags_ne t1 (by omega)), getN_lay (tags_ne B2 (by omega)),
    getN_skip (tags_ne t1 (by omega)), getN_skip (tags_ne t2 (by omega)), getN_lay (tags_ne B3 (by omega)),
    getN_skip (tags_ne t1 (by omega)), getN_skip (tags_ne t2 (by omega)), getN_skip (tags_ne t3 (by omega)), getN_lay (tags_ne B4 (by omega)),
    getT_skip (tags_ne t1 (by omega)), getT_skip (tags_ne t2 (by omega)), getT_skip (tags_ne t3 (by omega)), getT_skip (tags_ne t4 (by omega)), getT_lay (tags_ne B5 (by omega)),
    texts_skip (tags_ne t1 (by omega)), texts_skip (tags_ne t2 (by omega)), texts_skip (tags_ne t3 (by omega)), texts_skip (tags_ne t4 (by omega)), texts_skip (tags_ne t5 (by omega)), texts_all, List.map_map]
  have : l.map (unrS ∘ fun c => (recS c).1) = l := by
    conv => rhs; rw [← List.map_id l]
    exact List.map_congr_left fun c h => unr_rec c (hc c h) (hr c h)
  rw [this]
theorem ra_back (a : S42) (h : (ansS a).2 = 0) : raS (ansS a).1 = (a, 0) := by
  obtain ⟨h1, h2⟩ := ans_enc a h
  have hd : decS (ansS a).1 = (ansL a, 0) := (dec_enc _ _).2 h2
  unfold raS
  rw [hd]
  simp only
  rw [if_pos trivial, ansOf_ansL a (ans_ok a h) h1, if_pos ⟨h, rfl⟩]
/-- What is read is written as it was. -/
theorem ra_forth (s : ByteArray) (h : (raS s).2 = 0) : ansS (raS s).1 = (s, 0) := by
  unfold raS at h ⊢
  split at h
  · rename_i h1
    split at h
    · rename_i h2
      rw [if_pos h1, if_pos h2]
      exact Prod.ext (tl_inj h2.2) h2.1
    · simp at h
  · simp at h
theorem rr_forth (s : ByteArray) (h : (rrS s).2 = 0) : reqS (rrS s).1 = (s, 0) := by
  unfold rrS at h ⊢
  split at h
  · rename_i h1
    split at h
    · rename_i h2
      rw [if_pos h1, if_pos h2]
      exact Prod.ext (tl_inj h2.2) h2.1
    · simp at h
  · simp at h
end Go.Proofs.Ytjaneipklpgnlaa.Q

namespace Go.Proofs.Ytjaneipklpgnlaa.Q
open Go Go.RowKit Go.Proofs.YtjaneipklpgnlaaK Go.Proofs.YtjaneipklpgnlaaW.PrintWords Go.Proofs.YtjaneipklpgnlaaW.PrintLast Go.Proofs.YtjaneipklpgnlaaW.PrintMore
theorem min2_mn (k k' : IntKind) (x y : Int) : Builtin.min2 (.int k x) (.int k' y) = pure (.int k (mn x y)) := by
  rw [min2_int]
  unfold mn
  rfl
attribute [local go_sem] min2_mn min_two
set_option linter.unusedSimpArgs false
set_option linter.unusedVariables false
/-! ### An answer cut to the law's own looks -/
def cutS (s : ByteArray) : ByteArray := s.extract 0 (mn (s.size : Int) 4100).toNat
def cutC (x : S81) : S81 := ⟨x.f0, cutS x.f1, x.f2, x.f3, x.f4⟩
def cutA (a : S42) : S42 := ⟨a.f0, a.f1, a.f2, a.f3, cutS a.f4, (a.f5.take 18).map cutC⟩
theorem A81_set1 (x : S81) (s : ByteArray) : (A81 x).setIfInBounds 1 (.string s) = A81 ⟨x.f0, s, x.f2, x.f3, x.f4⟩ := by
  simp [A81, L81]
theorem mn_ok (s : ByteArray) : 0 ≤ mn (s.size : Int) 4100 ∧ mn (s.size : Int) 4100 ≤ (s.size : Int) := by unfold mn; split <;> omega
theorem rowB {α : Type} {d : Kd α} {e base : Nat} {W W' : World} {v : Value} {xs : List α} (h : d.R e W base (fun _ => True) v xs) (hb : Below W.heap.size W W') : d.R e W' base (fun _ => True) v xs :=
  Kd.R_mono (Kd.R_step (Kd.R_bound h) (fun k hk hlt => hb.block k hlt)) (fun _ _ => trivial)
theorem held_set1 {W : World} {g : Nat} {x : S81} {s : ByteArray} [h : Holds W g (.cells ((A81 x).setIfInBounds 1 (.string s)) 81 (0, 0))] (hs : s = cutS x.f1) : W.heap[g]? = some (.cells (A81 (cutC x)) 81 (0, 0)) := by
  have h1 := h.out
  rw [A81_set1] at h1
  subst hs
  exact h1
attribute [local go_sem] laid81 A81_set1 A81_size A81_0 A81_1 A81_2 A81_3 A81_g0 A81_g1 A81_g2 A81_g3 cell_held frozen_held
set_option maxRecDepth 100000 in
set_option maxHeartbeats 4000000 in
theorem fewer_any (w : World) (a : S42) (A : Option Addr) (c : Nat) (hc : k81.C w A a.f5.length a.f5) (hl : a.f5.length ≤ 9223372036854775807) :
    Calls Try.prog 16 #[ansV a A c] w fun e w' => ∃ v, e = .returned (ansW (cutA a) v) ∧ Kd.R k81 81 w' w.heap.size (fun _ => True) v (cutA a).f5 ∧ Below w.heap.size w w' := by
  have hu42 := Try.underlying42
  have hu81 := Try.underlying81
  have HC := Aside0.mk hc
  obtain ⟨m1, m2⟩ := mn_ok a.f4
  clear hc
  go_enter Try.func16, Try.ntmps16
  go_wp2_with fail
  go_loopw [3, 4] (fun u i wr => ∃ j : Nat, j ≤ a.f5.length ∧ j ≤ 18 ∧ i = .int .i64 (j : Int) ∧ Aside0 (Below w.heap.size w wr) ∧ Aside0 (wr.heap[w.heap.size]? = some (.cells #[.int .i64 a.f0, .int .i64 a.f1, .int .i64 a.f2, .int .i64 a.f3, .string (cutS a.f4), .slice A a.f5.length c] 42 (0, 0))) ∧ Aside0 (wr.heap[w.heap.size + 1]? = some (.cells Z42 42 (0, 0))) ∧ Aside0 (Kd.R k81 81 wr (w.heap.size + 2) (fun _ => True) u ((a.f5.take j).map cutC))) (fun _ i _ => 18 - (intOf i).toNat)
  case atStart => exact ⟨0, Nat.zero_le _, Nat.zero_le _, rfl, ⟨bel _ _⟩, ⟨held⟩, ⟨held⟩, ⟨Kd.R_nil _ _ _ _ _⟩⟩
  case round =>
    obtain ⟨j, hj, hj2, rfl, HB, h1, h2, HV⟩ := hrel
    have pr := prev_above HB.out
    have H1 : Holds wr w.heap.size (.cells #[.int .i64 a.f0, .int .i64 a.f1, .int .i64 a.f2, .int .i64 a.f3, .string (cutS a.f4), .slice A a.f5.length c] 42) := ⟨h1.out⟩
    have H2 : Holds wr (w.heap.size + 1) (.cells Z42 42) := ⟨h2.out⟩
    have sr := held_lt (W := wr) (g := w.heap.size + 1)
    have a1 : Apart (w.heap.size + 1) (.row w.heap.size) := apart_ne (by omega)
    have hlv : ((a.f5.take j).map cutC).length = j := by rw [List.length_map, List.length_take]; omega
    obtain ⟨Au, cu, hu⟩ := Kd.R_slice HV.out
    rw [hlv] at hu
    subst hu
    by_cases hlt : j < a.f5.length
    · by_cases h18 : j < 18
      · obtain ⟨ad, e, x0⟩ := C81_at HC.out j hlt
        subst e
        have ht : a.f5.take (j + 1) = a.f5.take j ++ [a.f5[j]] := List.take_succ_eq_append_getElem hlt
        generalize a.f5[j] = x at x0 ht
        have HX := Aside0.mk (At_below x0 HB.out)
        have HTK := Aside0.mk ht
        obtain ⟨k1, k2⟩ := mn_ok x.f1
        clear x0 ht
        go_wp2_with (first
          | (refine seg_load rfl 81 (.tmp 28) rfl HX.out (A81 x) rfl rfl hu81 rfl (by rw [L81_len]; exact info81) ?_)
          | ((with_reducible refine gate_dst (N := 5) rfl ?_); refine new_event rfl (N := 5) rfl (ob := .cells Z81 81) (by go_simp; rfl) ?_; intro w4 p4 h4)
          | (refine box_store rfl rfl 81 (.tmp 5) (.tmp 29) rfl held (A81 x) rfl rfl (by rw [A81_size]; exact info81) (by rw [A81_size]; rfl) (A81_one x) ?_
             intro w5 hx5 hg5
             have p5 := prev_row hg5
             have h5 : Holds w5 wr.heap.size (.cells (A81 x) 81) := ⟨hx5⟩
             have a5 : Apart w.heap.size (.row wr.heap.size) := apart_ne (by omega)
             have b5 : Apart (w.heap.size + 1) (.row wr.heap.size) := apart_ne (by omega)
             have o5 : OwnB w.heap.size (.row wr.heap.size) := own_row (by omega)
             have q5 : OwnB (w.heap.size + 2) (.row wr.heap.size) := own_row (by omega)
             clear hx5 hg5)
          | (refine box_load rfl 81 (.tmp 5) rfl (held_set1 (x := x) rfl) rfl hu81 rfl (by rw [A81_size]; exact info81) ?_)
          | ((with_reducible refine gate_builtin (b := .append) (xs := #[.tmp 38, .tmp 40]) rfl ?_); at_builtin; refine Kd.R_append k81 (w0 := wr) (w.heap.size + 2) rfl (.tmp 38) (.tmp 40) 40 81 (.agg Z81) 72 rfl Try.underlying40 infoB81 rfl (by decide) (by decide) (.slice Au j cu) ((a.f5.take j).map cutC) (cutC x) (L81 (cutC x)) (fun _ => True) (fun _ => False) ?aV ?aX (k81_mkM _ _ _ (cutC x)) (fun _ hk => hk.elim) (fun _ _ => trivial) ?aO ?aB ?aS ?aL ?_; (case aV => rfl); (case aX => rw [World.size_setCell]; rfl); (case aO => exact rowB HV.out (bel wr _)); (case aB => exact (inferInstance : Bel (w.heap.size + 2) wr _).out (by omega)); (case aS => (have hss := siz wr (w5.setCell ⟨wr.heap.size, 1, none⟩ (.string (x.f1.extract 0 (mn (x.f1.size : Int) 4100).toNat))); omega)); (case aL => rw [hlv]; omega); intro v1 w6 h6 hb6 hg6 hat6; have p6 := prev_above hb6; have HB6 := Aside0.mk hb6; have HV6 := Aside0.mk h6; clear hb6 h6 hg6 hat6))
        refine ⟨⟨j + 1, by omega, by omega, by go_num, ⟨bel _ _⟩, ⟨held⟩, ⟨held⟩, ⟨?_⟩⟩, by simp [intOf]; omega⟩
        rw [HTK.out, List.map_append]
        exact HV6.out
      · have hv := HV.out
        rw [show j = 18 by omega] at hv
        have HV' : Aside0 (Kd.R k81 81 wr (w.heap.size + 2) (fun _ => True) (.slice Au j cu) (cutA a).f5) := ⟨by rw [show j = 18 by omega]; exact hv⟩
        clear hv HV
        go_wp2_with (first
          | (refine box_load rfl 42 (.tmp 1) rfl held rfl hu42 rfl info42 ?_)
          | (refine box_store rfl rfl 42 (.tmp 2) (.tmp 44) rfl held #[.int .i64 a.f0, .int .i64 a.f1, .int .i64 a.f2, .int .i64 a.f3, .string (cutS a.f4), .slice Au j cu] rfl rfl info42 (by rfl) (by rfl) ?_
             intro wz hxz hgz
             have pz := prev_row hgz
             have nz : NoRow (81 :: k81.E) (wr.setCell ⟨w.heap.size, 5, none⟩ (.slice Au j cu)) (.row (w.heap.size + 1)) := noRow_row held (by decide)
             have HZ := Aside0.mk hxz
             clear hxz hgz))
        refine bodyPost_ret (results_cell_row rfl _ _ (w.heap.size + 1) 42 #[.int .i64 a.f0, .int .i64 a.f1, .int .i64 a.f2, .int .i64 a.f3, .string (cutS a.f4), .slice Au j cu] (0, 0) _ rfl HZ.out hu42 rfl info42) rfl ?_
        have n0 : NoRow (81 :: k81.E) wr (.row w.heap.size) := noRow_row held (by decide)
        exact ⟨_, rfl, Kd.R_lower (rowK HV'.out) (by omega), bel _ _⟩
    · have hv := HV.out
      rw [List.take_of_length_le (by omega)] at hv
      have HV' : Aside0 (Kd.R k81 81 wr (w.heap.size + 2) (fun _ => True) (.slice Au j cu) (cutA a).f5) := ⟨by unfold cutA; simp only; rw [List.take_of_length_le (by omega)]; exact hv⟩
      clear hv HV
      go_wp2_with (first
        | (refine box_load rfl 42 (.tmp 1) rfl held rfl hu42 rfl info42 ?_)
        | (refine box_store rfl rfl 42 (.tmp 2) (.tmp 44) rfl held #[.int .i64 a.f0, .int .i64 a.f1, .int .i64 a.f2, .int .i64 a.f3, .string (cutS a.f4), .slice Au j cu] rfl rfl info42 (by rfl) (by rfl) ?_
           intro wz hxz hgz
           have pz := prev_row hgz
           have nz : NoRow (81 :: k81.E) (wr.setCell ⟨w.heap.size, 5, none⟩ (.slice Au j cu)) (.row (w.heap.size + 1)) := noRow_row held (by decide)
           have HZ := Aside0.mk hxz
           clear hxz hgz))
      refine bodyPost_ret (results_cell_row rfl _ _ (w.heap.size + 1) 42 #[.int .i64 a.f0, .int .i64 a.f1, .int .i64 a.f2, .int .i64 a.f3, .string (cutS a.f4), .slice Au j cu] (0, 0) _ rfl HZ.out hu42 rfl info42) rfl ?_
      have n0 : NoRow (81 :: k81.E) wr (.row w.heap.size) := noRow_row held (by decide)
      exact ⟨_, rfl, Kd.R_lower (rowK HV'.out) (by omega), bel _ _⟩
end Go.Proofs.Ytjaneipklpgnlaa.Q

namespace Go.Proofs.Ytjaneipklpgnlaa.Q
open Go Go.RowKit Go.Proofs.YtjaneipklpgnlaaK Go.Proofs.YtjaneipklpgnlaaW.PrintWords Go.Proofs.YtjaneipklpgnlaaW.PrintLast Go.Proofs.YtjaneipklpgnlaaW.PrintMore
set_option linter.unusedSimpArgs false
set_option linter.unusedVariables false
/-! ### The document's own calls, each told once -/
theorem rnum_c (W : World) (n : Int) (b : Bool) (h : badN n = b) : Calls Try.prog 42 #[.int .i64 n] W fun e w' => e = .returned (.bool (!b)) ∧ Below W.heap.size W w' := by
  subst h
  exact (aquiferref20_num.calls n _ W (rnum_not n)).mono (fun _ _ h => ⟨h.1, h.2.below⟩)
theorem number_c (W : World) (t n : Int) : Calls Try.prog 29 #[.int .i64 t, .int .i64 n] W fun e w' => ∃ A c ys, Aside0 (ys = layN t [n]) ∧ ys.length ≤ 1 ∧ e = .returned (.slice A ys.length c) ∧ Kd.R k84 84 w' W.heap.size (fun _ => True) (.slice A ys.length c) ys ∧ Below W.heap.size W w' := by
  refine (aquiferref20_number.calls t n _ W (refnumb_fn t n)).mono ?_
  rintro e w' ⟨v, rfl, hv, hb⟩
  obtain ⟨A, c, rfl⟩ := Kd.R_slice hv
  exact ⟨A, c, _, ⟨rfl⟩, layN_one t n, rfl, hv, hb⟩
theorem rtext_c (W : World) (t : Int) (s : ByteArray) : Calls Try.prog 30 #[.int .i64 t, .string s] W fun e w' => ∃ A c ys, Aside0 (ys = layT t [s]) ∧ ys.length ≤ 1 ∧ e = .returned (.slice A ys.length c) ∧ Kd.R k84 84 w' W.heap.size (fun _ => True) (.slice A ys.length c) ys ∧ Below W.heap.size W w' := by
  refine (aquiferref20_text.calls t s _ W (reftext1_fn t s)).mono ?_
  rintro e w' ⟨v, rfl, hv, hb⟩
  obtain ⟨A, c, rfl⟩ := Kd.R_slice hv
  exact ⟨A, c, _, ⟨rfl⟩, layT_one t s, rfl, hv, hb⟩
theorem renc_c {W : World} {base : Nat} {v : Value} {L : List S84} (hv : Kd.R k84 84 W base (fun _ => True) v L) (hL : L.length ≤ 1048576) (t : ByteArray) (q : Int) (he : encGo L 0 [] = (t, q)) :
    Calls Try.prog 31 #[v] W fun e w' => e = .returned (.tuple #[.string t, .int .i64 q]) ∧ Below W.heap.size W w' := by
  obtain ⟨A3, k3, he3, hk3, hc3⟩ := Kd.R_reads hv
  subst he3
  exact aquiferref04_Encode.calls (2 * L.length + 12) A3 k3 L t q W hc3 hk3 (by rw [ref_fn L hL _ (Nat.le_refl _), he])
theorem rdec_c (W : World) (s : ByteArray) (hs : s.size ≤ 65536) : Calls Try.prog 36 #[.string s] W fun e w' => ∃ v, e = .returned (.tuple #[v, .int .i64 (decS s).2]) ∧ Kd.R k84 84 w' W.heap.size (fun _ => True) v (decS s).1 ∧ Below W.heap.size W w' :=
  aquiferref04_Decode.calls (20 * (s.size + 1) + 2 * 65536 + 100) s _ _ W (refdec_fn s hs _ (Nat.le_refl _))
theorem get_c {W : World} {base : Nat} {v : Value} {L : List S84} (hv : Kd.R k84 84 W base (fun _ => True) v L) (hL : L.length ≤ 1048576) (t : Int) :
    Calls Try.prog 37 #[v, .int .i64 t] W fun e w' => e = .returned (.int .i64 (getN L t)) ∧ Below W.heap.size W w' := by
  obtain ⟨A3, k3, he3, hk3, hc3⟩ := Kd.R_reads hv
  subst he3
  exact (aquiferref20_get.calls (L.length + 1) A3 k3 L t _ W hc3 hk3 (refget_fn L hL t _ (Nat.lt_succ_self _))).mono (fun _ _ h => ⟨h.1, h.2.below⟩)
theorem word_c {W : World} {base : Nat} {v : Value} {L : List S84} (hv : Kd.R k84 84 W base (fun _ => True) v L) (hL : L.length ≤ 1048576) (t : Int) :
    Calls Try.prog 38 #[v, .int .i64 t] W fun e w' => e = .returned (.string (getT L t)) ∧ Below W.heap.size W w' := by
  obtain ⟨A3, k3, he3, hk3, hc3⟩ := Kd.R_reads hv
  subst he3
  exact aquiferref20_word.calls (L.length + 1) A3 k3 L t _ W hc3 hk3 (refword_fn L hL t _ (Nat.lt_succ_self _))
theorem rtexts_c {W : World} {base : Nat} {v : Value} {L : List S84} (hv : Kd.R k84 84 W base (fun _ => True) v L) (hL : L.length ≤ 1048576) (t : Int) :
    Calls Try.prog 48 #[v, .int .i64 t] W fun e w' => ∃ v, e = .returned v ∧ Kd.R Kd.string 9 w' W.heap.size (fun _ => True) v (textsOf L t) ∧ Below W.heap.size W w' := by
  obtain ⟨A3, k3, he3, hk3, hc3⟩ := Kd.R_reads hv
  subst he3
  exact aquiferref04_Texts.calls (L.length + 1) A3 k3 L t _ W hc3 hk3 (refTexts_fn L hL t _ (Nat.lt_succ_self _))
/-! ### append(l, more...) -/
theorem keep84 {W W1 : World} {base : Nat} {v : Value} {xs : List S84} (hv : Kd.R k84 84 W base (fun _ => True) v xs) (hb : Below W.heap.size W W1) : Kd.R k84 84 W1 base (fun k => k < W.heap.size) v xs :=
  Kd.R_mono (Kd.R_step (Kd.R_bound hv) (fun k hk hlt => hb.block k hlt)) (fun _ hk => hk.2.2.1)
theorem app84 {ops : Array Oper} {rest : List Oper} {o : Oper} {a : Act} {Q : Exit → Act → World → Prop} {W : World} (base nb : Nat) (hgd : o.guard = none) (s x : Operand)
    (ho : o.op = .call { callee := .builtin .append, args := #[s, x], argTypes := #[57, 57] })
    (v : Value) (xs ys : List S84) (A : Option Addr) (c : Nat) (hs : a.eval s = v) (hx : a.eval x = .slice A ys.length c)
    (hv : Kd.R k84 84 W base (fun k => k < nb) v xs) (hn : Kd.R k84 84 W nb (fun _ => True) (.slice A ys.length c) ys) (hb : base ≤ W.heap.size) (hl : xs.length + ys.length ≤ 1048576)
    (h : ∀ v1 w1, Kd.R k84 84 w1 base (fun _ => True) v1 (xs ++ ys) → Below base W w1 → wpList Try.prog ops Q rest (a.put o.dst v1) w1) : wpList Try.prog ops Q (o :: rest) a W := by
  refine Kd.R_append_rows k84 (w0 := W) base hgd s x 57 84 (.agg #[(.int .i64 0), (.int .i64 0), (.int .i64 0), (.string ⟨#[]⟩)]) 40 ho Try.underlying57 info84 rfl (by decide) (by decide) v xs ys A ys.length c (fun k => some k ≠ (.slice A ys.length c : Value).ownBlock) (fun _ => False) hs hx ?_ (Kd.R_reads' hn).2.2 (fun _ _ h => h) (fun _ h => h.elim) ?_ (Below.refl _ _) hb ?_ ?_
  · exact Kd.R_mono hv (fun k hk he => by have := Kd.R_base hn k he.symm; omega)
  · exact fun k hk he => by have := Kd.R_lt hn k he.symm; omega
  · show (xs.length + ys.length) * 40 ≤ _
    omega
  · intro v1 w1 h1 h2 _ _
    exact h v1 w1 (Kd.R_mono h1 (fun _ _ => trivial)) h2
/-! ### A change's bytes, by the document -/
theorem sumS_size (s : Sum) : (sumS s).size = 32 := by
  show (s.l.toArray).size = 32
  simp [s.h]
theorem recL_VB (x : S81) (h : chgOk x = true) : VB (recL x) 0 := by
  unfold chgOk at h
  simp only [Bool.and_eq_true, Bool.not_eq_true'] at h
  obtain ⟨⟨⟨⟨h1, h2⟩, h3⟩, h4⟩, _⟩ := h
  have hA := layN_VB [x.f0] 1 (by omega) (by simp) (by simpa using h2)
  have hB := layT_VB [x.f1] 2 (by omega) (by simp) (by simpa using h4)
  have hg : badN (if x.f2 = true then 1 else 0) = false := by cases x.f2 <;> rfl
  have hC := layN_VB [if x.f2 = true then 1 else 0, x.f3] 3 (by omega) (by simp) (by
    intro n hn
    simp only [List.mem_cons, List.not_mem_nil, or_false] at hn
    rcases hn with rfl | rfl <;> assumption)
  have hD : VB (if x.f2 = true then [] else layT 5 [sumS x.f4]) 5 := by
    split
    · exact VB_nil 5
    · exact layT_VB [sumS x.f4] 5 (by omega) (by simp) (by
        intro n hn
        simp only [List.mem_singleton] at hn
        subst hn
        unfold badT
        rw [sumS_size]
        rfl)
  have tA := layN_tags [x.f0] 1
  have tB := layT_tags [x.f1] 2
  have tC := layN_tags [if x.f2 = true then 1 else 0, x.f3] 3
  simp only [List.length_cons, List.length_nil] at tA tB tC
  have tAB := tagsIn_append (lo := 1) (hi := 3) (tagsIn_mono tA (by omega) (by omega)) (tagsIn_mono tB (by omega) (by omega))
  have tABC := tagsIn_append (lo := 1) (hi := 5) (tagsIn_mono tAB (by omega) (by omega)) (tagsIn_mono tC (by omega) (by omega))
  unfold recL
  refine VB_append (t' := 5) (VB_append (t' := 3) (VB_append (t' := 2) (fun b hb => hA b (by omega)) (by omega) ?_ hB) (by omega) ?_ hC) (by omega) ?_ hD
  · intro f hf
    have := tA f hf
    omega
  · intro f hf
    have := tAB f hf
    omega
  · intro f hf
    have := tABC f hf
    omega
theorem rec_fine (x : S81) (h : chgOk x = true) : (encGo (recL x) 0 []).2 = 0 := by
  have hv := recL_VB x h 0 (Int.le_refl _)
  have h1 := valid_size hv
  have h2 := recL_len x
  rw [(enc_iff (recL x) _).2 ⟨hv, by omega, rfl⟩]
theorem dec_nil : decS ⟨#[]⟩ = ([], 0) := (dec_enc _ _).2 rfl
theorem rec_some (x : S81) (h : chgOk x = true) : (encGo (recL x) 0 []).1.toList ≠ [] := by
  intro he
  have h1 : (encGo (recL x) 0 []).1 = ⟨#[]⟩ := tl_inj (by rw [he]; exact (by decide +kernel : (⟨#[]⟩ : ByteArray).toList = []).symm)
  have h2 : encGo (recL x) 0 [] = (⟨#[]⟩, 0) := Prod.ext h1 (rec_fine x h)
  have h3 := (dec_enc _ _).2 h2
  rw [dec_nil] at h3
  have h4 : recL x = [] := (congrArg Prod.fst h3).symm
  unfold chgOk at h
  simp only [Bool.and_eq_true] at h
  have h5 := of_decide_eq_true h.1.1.1.1
  unfold recL at h4
  simp only [List.append_eq_nil_iff, layN] at h4
  have h6 := h4.1.1.1
  rw [if_neg (by omega)] at h6
  simp at h6
theorem ansGo_ref (x : S81) (l : List S81) (L : List S84) (t : ByteArray) (q : Int) (hk : chgOk x = true) (h : ansGo (x :: l) L = (t, q)) :
    ∃ b, encGo (recL x) 0 [] = (b, 0) ∧ ((b.size > 4096 ∧ t = ⟨#[]⟩ ∧ q = 3) ∨ (¬ b.size > 4096 ∧ ansGo l (L ++ layT 6 [b]) = (t, q))) := by
  have h2 := rec_fine x hk
  refine ⟨(encGo (recL x) 0 []).1, Prod.ext rfl h2, ?_⟩
  simp only [ansGo] at h
  by_cases hb : (encGo (recL x) 0 []).1.size > 4096
  · have hr : recS x = (⟨#[]⟩, 3) := by unfold recS; rw [if_pos ⟨h2, hb⟩]
    rw [hr, if_neg (by decide)] at h
    exact .inl ⟨hb, (congrArg Prod.fst h).symm, (congrArg Prod.snd h).symm⟩
  · have hr : recS x = encGo (recL x) 0 [] := by unfold recS; rw [if_neg (fun h => hb h.2)]
    rw [hr, if_pos h2] at h
    refine .inr ⟨hb, ?_⟩
    have h3 : layT 6 [(encGo (recL x) 0 []).1] = [fldT 6 (encGo (recL x) 0 []).1] := by
      simp only [layT, List.append_nil]
      rw [if_neg (rec_some x hk)]
    rw [h3]
    exact h
theorem recL_gone (x : S81) (hg : x.f2 = true) (hk : chgOk x = true) : recL x = layN 1 [x.f0] ++ layT 2 [x.f1] ++ layN 3 [1] := by
  unfold chgOk at hk
  rw [hg] at hk
  simp only [Bool.and_eq_true, Bool.not_true, Bool.false_or, beq_iff_eq] at hk
  have h3 := hk.2.1
  unfold recL
  rw [hg, h3]
  simp [layN]
theorem recL_live (x : S81) (hg : x.f2 = false) : recL x = layN 1 [x.f0] ++ layT 2 [x.f1] ++ layN 4 [x.f3] ++ layT 5 [sumS x.f4] := by
  unfold recL
  rw [hg]
  simp [layN]
theorem ansL0_ref (a : S42) : ansL0 a = layN 1 [a.f0] ++ layN 2 [a.f1] ++ layN 3 [a.f2] ++ layN 4 [a.f3] ++ layT 5 [a.f4] := by
  unfold ansL0
  simp [layN]
end Go.Proofs.Ytjaneipklpgnlaa.Q

namespace Go.Proofs.Ytjaneipklpgnlaa.Q
open Go Go.RowKit Go.Proofs.YtjaneipklpgnlaaK Go.Proofs.YtjaneipklpgnlaaW.PrintWords Go.Proofs.YtjaneipklpgnlaaW.PrintLast Go.Proofs.YtjaneipklpgnlaaW.PrintMore
set_option linter.unusedSimpArgs false
set_option linter.unusedVariables false
/-! ### Is an answer one, by the document -/
/-- How a change is looked at, step by step. -/
theorem chg_ways (x : S81) : (chgOk x = false ∧ ¬ 1 ≤ x.f0) ∨ (chgOk x = false ∧ 1 ≤ x.f0 ∧ badN x.f0 = true) ∨ (chgOk x = false ∧ 1 ≤ x.f0 ∧ badN x.f0 = false ∧ badN x.f3 = true) ∨ (chgOk x = false ∧ 1 ≤ x.f0 ∧ badN x.f0 = false ∧ badN x.f3 = false ∧ ¬ (x.f1.size : Int) ≤ 4096)
    ∨ (chgOk x = true ∧ 1 ≤ x.f0 ∧ badN x.f0 = false ∧ badN x.f3 = false ∧ (x.f1.size : Int) ≤ 4096 ∧ x.f2 = false) ∨ (chgOk x = false ∧ 1 ≤ x.f0 ∧ badN x.f0 = false ∧ badN x.f3 = false ∧ (x.f1.size : Int) ≤ 4096 ∧ x.f2 = true ∧ (x.f3 == 0) = false)
    ∨ (chgOk x = false ∧ 1 ≤ x.f0 ∧ badN x.f0 = false ∧ badN x.f3 = false ∧ (x.f1.size : Int) ≤ 4096 ∧ x.f2 = true ∧ x.f3 = 0 ∧ (x.f4.l == sum0.l) = false) ∨ (chgOk x = true ∧ 1 ≤ x.f0 ∧ badN x.f0 = false ∧ badN x.f3 = false ∧ (x.f1.size : Int) ≤ 4096 ∧ x.f2 = true ∧ x.f3 = 0 ∧ (x.f4.l == sum0.l) = true) := by
  unfold chgOk
  by_cases h1 : 1 ≤ x.f0
  · rw [decide_eq_true h1]
    cases h2 : badN x.f0
    · cases h3 : badN x.f3
      · by_cases h4 : (x.f1.size : Int) ≤ 4096
        · have h5 : badT x.f1 = false := by unfold badT; rw [decide_eq_false (by omega)]
          rw [h5]
          cases h6 : x.f2
          · simp [h4, h1]
          · by_cases h7 : x.f3 = 0
            · rw [h7]
              cases h8 : (x.f4.l == sum0.l) <;> simp [h4, h1]
            · simp [h4, h1, h7]
        · have h5 : badT x.f1 = true := by unfold badT; rw [decide_eq_true (by omega)]
          rw [h5]
          simp [h4, h1]
      · simp [h1]
    · simp [h1]
  · rw [decide_eq_false h1]
    simp [h1]
attribute [local go_sem high] eqS0
attribute [local go_sem] A81_size A81_0 A81_1 A81_2 A81_3 A81_g0 A81_g1 A81_g2 A81_g3 cell_held frozen_held
set_option maxRecDepth 100000 in
set_option maxHeartbeats 2000000 in
theorem refck_no (w : World) (a : S42) (A : Option Addr) (c : Nat) (h : ansOk0 a = false) :
    Calls Try.prog 22 #[ansV a A c] w fun e w' => e = .returned (.int .i64 2) ∧ Below w.heap.size w w' := by
  have hu42 := Try.underlying42
  unfold ansOk0 at h
  by_cases h1 : 0 ≤ a.f0
  · by_cases h2 : a.f0 ≤ 19
    · cases h3 : badN a.f1
      · cases h4 : badN a.f2
        · cases h5 : badN a.f3
          · by_cases h6 : (a.f4.size : Int) ≤ 4096
            · have h7 : ¬ ((a.f5.length : Int) ≤ 16) := by
                intro h7
                rw [decide_eq_true h1, decide_eq_true h2, decide_eq_true (show a.f5.length ≤ 16 by omega)] at h
                have h8 : badT a.f4 = false := by unfold badT; rw [decide_eq_false (by omega)]
                simp [h3, h4, h5, h8] at h
              clear h
              go_enter Try.func22, Try.ntmps22
              go_wp2_with fail
              refine (rnum_c _ a.f1 false h3).mono ?_
              rintro e w3 ⟨rfl, hb⟩
              have p3 := prev_call hb
              clear hb
              go_wp2_with fail
              refine (rnum_c _ a.f2 false h4).mono ?_
              rintro e w4 ⟨rfl, hb⟩
              have p4 := prev_call hb
              clear hb
              go_wp2_with fail
              refine (rnum_c _ a.f3 false h5).mono ?_
              rintro e w5 ⟨rfl, hb⟩
              have p5 := prev_call hb
              clear hb
              go_wp2_with fail
              go_ret
              exact ⟨rfl, bel _ _⟩
            · clear h
              go_enter Try.func22, Try.ntmps22
              go_wp2_with fail
              refine (rnum_c _ a.f1 false h3).mono ?_
              rintro e w3 ⟨rfl, hb⟩
              have p3 := prev_call hb
              clear hb
              go_wp2_with fail
              refine (rnum_c _ a.f2 false h4).mono ?_
              rintro e w4 ⟨rfl, hb⟩
              have p4 := prev_call hb
              clear hb
              go_wp2_with fail
              refine (rnum_c _ a.f3 false h5).mono ?_
              rintro e w5 ⟨rfl, hb⟩
              have p5 := prev_call hb
              clear hb
              go_wp2_with fail
              go_ret
              exact ⟨rfl, bel _ _⟩
          · clear h
            go_enter Try.func22, Try.ntmps22
            go_wp2_with fail
            refine (rnum_c _ a.f1 false h3).mono ?_
            rintro e w3 ⟨rfl, hb⟩
            have p3 := prev_call hb
            clear hb
            go_wp2_with fail
            refine (rnum_c _ a.f2 false h4).mono ?_
            rintro e w4 ⟨rfl, hb⟩
            have p4 := prev_call hb
            clear hb
            go_wp2_with fail
            refine (rnum_c _ a.f3 true h5).mono ?_
            rintro e w5 ⟨rfl, hb⟩
            have p5 := prev_call hb
            clear hb
            go_wp2_with fail
            go_ret
            exact ⟨rfl, bel _ _⟩
        · clear h
          go_enter Try.func22, Try.ntmps22
          go_wp2_with fail
          refine (rnum_c _ a.f1 false h3).mono ?_
          rintro e w3 ⟨rfl, hb⟩
          have p3 := prev_call hb
          clear hb
          go_wp2_with fail
          refine (rnum_c _ a.f2 true h4).mono ?_
          rintro e w4 ⟨rfl, hb⟩
          have p4 := prev_call hb
          clear hb
          go_wp2_with fail
          go_ret
          exact ⟨rfl, bel _ _⟩
      · clear h
        go_enter Try.func22, Try.ntmps22
        go_wp2_with fail
        refine (rnum_c _ a.f1 true h3).mono ?_
        rintro e w3 ⟨rfl, hb⟩
        have p3 := prev_call hb
        clear hb
        go_wp2_with fail
        go_ret
        exact ⟨rfl, bel _ _⟩
    · clear h
      go_enter Try.func22, Try.ntmps22
      go_wp2_with fail
      go_ret
      exact ⟨rfl, bel _ _⟩
  · clear h
    go_enter Try.func22, Try.ntmps22
    go_wp2_with fail
    go_ret
    exact ⟨rfl, bel _ _⟩
set_option maxRecDepth 100000 in
set_option maxHeartbeats 8000000 in
theorem refck_yes (w : World) (a : S42) (A : Option Addr) (c : Nat) (hr : k81.C w A a.f5.length a.f5) (h : ansOk0 a = true) (r : Bool) (hq : (a.f5.any fun x => !chgOk x) = r) :
    Calls Try.prog 22 #[ansV a A c] w fun e w' => e = .returned (.int .i64 (if r = true then 2 else 0)) ∧ Below w.heap.size w w' := by
  have hu42 := Try.underlying42
  have hu81 := Try.underlying81
  have HR := Aside0.mk hr
  unfold ansOk0 at h
  simp only [Bool.and_eq_true, Bool.not_eq_true', decide_eq_true_eq] at h
  obtain ⟨⟨⟨⟨h1, h2⟩, hn⟩, ht⟩, h7n⟩ := h
  have h7 : (a.f5.length : Int) ≤ 16 := by omega
  have h6 : (a.f4.size : Int) ≤ 4096 := by
    simp only [List.any_cons, List.any_nil, Bool.or_false] at ht
    unfold badT at ht
    have := of_decide_eq_false ht
    omega
  simp only [List.any_cons, List.any_nil, Bool.or_false, Bool.or_eq_false_iff] at hn
  obtain ⟨h3, h4, h5⟩ := hn
  have d1 : decide (a.f0 < 0) = false := decide_eq_false (by omega)
  have d2 : decide (19 < a.f0) = false := decide_eq_false (by omega)
  have d6 : decide (4096 < (a.f4.size : Int)) = false := decide_eq_false (by omega)
  have d7 : decide (16 < (a.f5.length : Int)) = false := decide_eq_false (by omega)
  clear hr ht
  have HQ := Aside0.mk hq
  clear hq
  go_enter Try.func22, Try.ntmps22
  go_wp2_with fail
  refine (rnum_c _ a.f1 false h3).mono ?_
  rintro e w3 ⟨rfl, hb⟩
  have p3 := prev_call hb
  clear hb
  go_wp2_with fail
  refine (rnum_c _ a.f2 false h4).mono ?_
  rintro e w4 ⟨rfl, hb⟩
  have p4 := prev_call hb
  clear hb
  go_wp2_with fail
  refine (rnum_c _ a.f3 false h5).mono ?_
  rintro e w5 ⟨rfl, hb⟩
  have p5 := prev_call hb
  clear hb
  go_wp2_with fail
  have s5 := held_lt (W := w5) (g := w.heap.size)
  go_loopw [3] (fun i wr => ∃ j : Nat, j ≤ a.f5.length ∧ i = .int .i64 (j : Int) ∧ Aside0 (((a.f5.drop j).any fun x => !chgOk x) = r) ∧ Aside0 (Below (w.heap.size + 1) w5 wr)) (fun i _ => a.f5.length - (intOf i).toNat)
  case atStart => exact ⟨0, Nat.zero_le _, rfl, HQ, ⟨Below.refl _ _⟩⟩
  case round =>
    obtain ⟨j, hj, rfl, HI, HBr⟩ := hrel
    have pr := prev_above HBr.out
    have sr := held_lt (W := wr) (g := w.heap.size)
    by_cases hlt : j < a.f5.length
    · obtain ⟨ad, e, x0⟩ := C81_at HR.out j hlt
      subst e
      have hd := List.drop_eq_getElem_cons hlt
      have hI := HI.out
      rw [hd, List.any_cons] at hI
      generalize a.f5[j] = x at x0 hI
      have HX := Aside0.mk (At_below x0 (bel w wr))
      clear hd x0 HI
      have hws := chg_ways x
      rcases hws with ⟨hc, z1⟩ | ⟨hc, z1, z2⟩ | ⟨hc, z1, z2, z3⟩ | ⟨hc, z1, z2, z3, z4⟩ | ⟨hc, z1, z2, z3, z4, z5⟩ | ⟨hc, z1, z2, z3, z4, z5, z7⟩ | ⟨hc, z1, z2, z3, z4, z5, z7, z8⟩ | ⟨hc, z1, z2, z3, z4, z5, z7, z8⟩
      · rw [hc] at hI
        rw [Bool.not_false, Bool.true_or] at hI
        subst hI
        clear hc
        have e1 : decide (x.f0 < 1) = true := decide_eq_true (by omega)
        go_wp2_with (first
          | ((with_reducible refine gate_dst (N := 54) rfl ?_); refine seg_load rfl 81 (.tmp 53) rfl HX.out (A81 x) rfl rfl hu81 rfl (by rw [L81_len]; exact info81) ?_)
          | ((with_reducible refine gate_store (t := 81) (p := 4) rfl ?_); refine box_store rfl rfl 81 (.tmp 4) (.tmp 54) rfl held (A81 x) rfl rfl (by rw [A81_size]; exact info81) (by rw [A81_size]; rfl) (A81_one x) ?_
             intro wb hxb hgb
             have pb := prev_row hgb
             have hhb : Holds wb wr.heap.size (.cells (A81 x) 81) := ⟨hxb⟩
             have ab : Apart w.heap.size (.row wr.heap.size) := apart_ne (by omega)
             have ob : OwnB w.heap.size (.row wr.heap.size) := own_row (by omega)
             have qb : OwnB (w.heap.size + 1) (.row wr.heap.size) := own_row (by omega)
             clear hxb hgb))
        go_ret
        exact ⟨rfl, bel _ _⟩
      · rw [hc] at hI
        rw [Bool.not_false, Bool.true_or] at hI
        subst hI
        clear hc
        have e1 : decide (x.f0 < 1) = false := decide_eq_false (by omega)
        go_wp2_with (first
          | ((with_reducible refine gate_dst (N := 54) rfl ?_); refine seg_load rfl 81 (.tmp 53) rfl HX.out (A81 x) rfl rfl hu81 rfl (by rw [L81_len]; exact info81) ?_)
          | ((with_reducible refine gate_store (t := 81) (p := 4) rfl ?_); refine box_store rfl rfl 81 (.tmp 4) (.tmp 54) rfl held (A81 x) rfl rfl (by rw [A81_size]; exact info81) (by rw [A81_size]; rfl) (A81_one x) ?_
             intro wb hxb hgb
             have pb := prev_row hgb
             have hhb : Holds wb wr.heap.size (.cells (A81 x) 81) := ⟨hxb⟩
             have ab : Apart w.heap.size (.row wr.heap.size) := apart_ne (by omega)
             have ob : OwnB w.heap.size (.row wr.heap.size) := own_row (by omega)
             have qb : OwnB (w.heap.size + 1) (.row wr.heap.size) := own_row (by omega)
             clear hxb hgb))
        refine (rnum_c _ x.f0 true z2).mono ?_
        rintro e wn2 ⟨rfl, hb⟩
        have pn2 := prev_call hb
        clear hb
        go_wp2_with fail
        go_ret
        exact ⟨rfl, bel _ _⟩
      · rw [hc] at hI
        rw [Bool.not_false, Bool.true_or] at hI
        subst hI
        clear hc
        have e1 : decide (x.f0 < 1) = false := decide_eq_false (by omega)
        go_wp2_with (first
          | ((with_reducible refine gate_dst (N := 54) rfl ?_); refine seg_load rfl 81 (.tmp 53) rfl HX.out (A81 x) rfl rfl hu81 rfl (by rw [L81_len]; exact info81) ?_)
          | ((with_reducible refine gate_store (t := 81) (p := 4) rfl ?_); refine box_store rfl rfl 81 (.tmp 4) (.tmp 54) rfl held (A81 x) rfl rfl (by rw [A81_size]; exact info81) (by rw [A81_size]; rfl) (A81_one x) ?_
             intro wb hxb hgb
             have pb := prev_row hgb
             have hhb : Holds wb wr.heap.size (.cells (A81 x) 81) := ⟨hxb⟩
             have ab : Apart w.heap.size (.row wr.heap.size) := apart_ne (by omega)
             have ob : OwnB w.heap.size (.row wr.heap.size) := own_row (by omega)
             have qb : OwnB (w.heap.size + 1) (.row wr.heap.size) := own_row (by omega)
             clear hxb hgb))
        refine (rnum_c _ x.f0 false z2).mono ?_
        rintro e wn2 ⟨rfl, hb⟩
        have pn2 := prev_call hb
        clear hb
        go_wp2_with fail
        refine (rnum_c _ x.f3 true z3).mono ?_
        rintro e wn3 ⟨rfl, hb⟩
        have pn3 := prev_call hb
        clear hb
        go_wp2_with fail
        go_ret
        exact ⟨rfl, bel _ _⟩
      · rw [hc] at hI
        rw [Bool.not_false, Bool.true_or] at hI
        subst hI
        clear hc
        have e1 : decide (x.f0 < 1) = false := decide_eq_false (by omega)
        have e4 : decide (4096 < (x.f1.size : Int)) = true := decide_eq_true (by omega)
        go_wp2_with (first
          | ((with_reducible refine gate_dst (N := 54) rfl ?_); refine seg_load rfl 81 (.tmp 53) rfl HX.out (A81 x) rfl rfl hu81 rfl (by rw [L81_len]; exact info81) ?_)
          | ((with_reducible refine gate_store (t := 81) (p := 4) rfl ?_); refine box_store rfl rfl 81 (.tmp 4) (.tmp 54) rfl held (A81 x) rfl rfl (by rw [A81_size]; exact info81) (by rw [A81_size]; rfl) (A81_one x) ?_
             intro wb hxb hgb
             have pb := prev_row hgb
             have hhb : Holds wb wr.heap.size (.cells (A81 x) 81) := ⟨hxb⟩
             have ab : Apart w.heap.size (.row wr.heap.size) := apart_ne (by omega)
             have ob : OwnB w.heap.size (.row wr.heap.size) := own_row (by omega)
             have qb : OwnB (w.heap.size + 1) (.row wr.heap.size) := own_row (by omega)
             clear hxb hgb))
        refine (rnum_c _ x.f0 false z2).mono ?_
        rintro e wn2 ⟨rfl, hb⟩
        have pn2 := prev_call hb
        clear hb
        go_wp2_with fail
        refine (rnum_c _ x.f3 false z3).mono ?_
        rintro e wn3 ⟨rfl, hb⟩
        have pn3 := prev_call hb
        clear hb
        go_wp2_with fail
        go_ret
        exact ⟨rfl, bel _ _⟩
      · rw [hc] at hI
        rw [Bool.not_true, Bool.false_or] at hI
        have HI := Aside0.mk hI
        clear hI hc
        have e1 : decide (x.f0 < 1) = false := decide_eq_false (by omega)
        have e4 : decide (4096 < (x.f1.size : Int)) = false := decide_eq_false (by omega)
        go_wp2_with (first
          | ((with_reducible refine gate_dst (N := 54) rfl ?_); refine seg_load rfl 81 (.tmp 53) rfl HX.out (A81 x) rfl rfl hu81 rfl (by rw [L81_len]; exact info81) ?_)
          | ((with_reducible refine gate_store (t := 81) (p := 4) rfl ?_); refine box_store rfl rfl 81 (.tmp 4) (.tmp 54) rfl held (A81 x) rfl rfl (by rw [A81_size]; exact info81) (by rw [A81_size]; rfl) (A81_one x) ?_
             intro wb hxb hgb
             have pb := prev_row hgb
             have hhb : Holds wb wr.heap.size (.cells (A81 x) 81) := ⟨hxb⟩
             have ab : Apart w.heap.size (.row wr.heap.size) := apart_ne (by omega)
             have ob : OwnB w.heap.size (.row wr.heap.size) := own_row (by omega)
             have qb : OwnB (w.heap.size + 1) (.row wr.heap.size) := own_row (by omega)
             clear hxb hgb))
        refine (rnum_c _ x.f0 false z2).mono ?_
        rintro e wn2 ⟨rfl, hb⟩
        have pn2 := prev_call hb
        clear hb
        go_wp2_with fail
        refine (rnum_c _ x.f3 false z3).mono ?_
        rintro e wn3 ⟨rfl, hb⟩
        have pn3 := prev_call hb
        clear hb
        go_wp2_with fail
        go_roundw
        case rel => exact ⟨j + 1, by omega, by go_num, HI, ⟨(inferInstance : Bel (w.heap.size + 1) w5 _).out (by omega)⟩⟩
        case measure => simp [intOf]; omega
      · rw [hc] at hI
        rw [Bool.not_false, Bool.true_or] at hI
        subst hI
        clear hc
        have e1 : decide (x.f0 < 1) = false := decide_eq_false (by omega)
        have e4 : decide (4096 < (x.f1.size : Int)) = false := decide_eq_false (by omega)
        have e6 : (x.f3 != 0) = true := by rw [bne, z7]; rfl
        go_wp2_with (first
          | ((with_reducible refine gate_dst (N := 54) rfl ?_); refine seg_load rfl 81 (.tmp 53) rfl HX.out (A81 x) rfl rfl hu81 rfl (by rw [L81_len]; exact info81) ?_)
          | ((with_reducible refine gate_store (t := 81) (p := 4) rfl ?_); refine box_store rfl rfl 81 (.tmp 4) (.tmp 54) rfl held (A81 x) rfl rfl (by rw [A81_size]; exact info81) (by rw [A81_size]; rfl) (A81_one x) ?_
             intro wb hxb hgb
             have pb := prev_row hgb
             have hhb : Holds wb wr.heap.size (.cells (A81 x) 81) := ⟨hxb⟩
             have ab : Apart w.heap.size (.row wr.heap.size) := apart_ne (by omega)
             have ob : OwnB w.heap.size (.row wr.heap.size) := own_row (by omega)
             have qb : OwnB (w.heap.size + 1) (.row wr.heap.size) := own_row (by omega)
             clear hxb hgb))
        refine (rnum_c _ x.f0 false z2).mono ?_
        rintro e wn2 ⟨rfl, hb⟩
        have pn2 := prev_call hb
        clear hb
        go_wp2_with fail
        refine (rnum_c _ x.f3 false z3).mono ?_
        rintro e wn3 ⟨rfl, hb⟩
        have pn3 := prev_call hb
        clear hb
        go_wp2_with fail
        go_ret
        exact ⟨rfl, bel _ _⟩
      · rw [hc] at hI
        rw [Bool.not_false, Bool.true_or] at hI
        subst hI
        clear hc
        have e1 : decide (x.f0 < 1) = false := decide_eq_false (by omega)
        have e4 : decide (4096 < (x.f1.size : Int)) = false := decide_eq_false (by omega)
        have e6 : (x.f3 != 0) = false := bne_eq_false_iff_eq.mpr z7
        have e7 : (x.f3 == 0) = true := beq_iff_eq.mpr z7
        go_wp2_with (first
          | ((with_reducible refine gate_dst (N := 54) rfl ?_); refine seg_load rfl 81 (.tmp 53) rfl HX.out (A81 x) rfl rfl hu81 rfl (by rw [L81_len]; exact info81) ?_)
          | ((with_reducible refine gate_store (t := 81) (p := 4) rfl ?_); refine box_store rfl rfl 81 (.tmp 4) (.tmp 54) rfl held (A81 x) rfl rfl (by rw [A81_size]; exact info81) (by rw [A81_size]; rfl) (A81_one x) ?_
             intro wb hxb hgb
             have pb := prev_row hgb
             have hhb : Holds wb wr.heap.size (.cells (A81 x) 81) := ⟨hxb⟩
             have ab : Apart w.heap.size (.row wr.heap.size) := apart_ne (by omega)
             have ob : OwnB w.heap.size (.row wr.heap.size) := own_row (by omega)
             have qb : OwnB (w.heap.size + 1) (.row wr.heap.size) := own_row (by omega)
             clear hxb hgb))
        refine (rnum_c _ x.f0 false z2).mono ?_
        rintro e wn2 ⟨rfl, hb⟩
        have pn2 := prev_call hb
        clear hb
        go_wp2_with fail
        refine (rnum_c _ 0 false rfl).mono ?_
        rintro e wn3 ⟨rfl, hb⟩
        have pn3 := prev_call hb
        clear hb
        go_wp2_with ((with_reducible refine gate_dst (N := 85) rfl ?_); refine gate_guard (by rfl) ?_; dsimp only; refine seg_load rfl 79 (.tmp 84) rfl (At_seg held (fun j u h => A81_sum x j u h)) _ rfl rfl Try.underlying79 rfl (by rw [sumL_len]; exact info79) ?_)
        go_ret
        exact ⟨rfl, bel _ _⟩
      · rw [hc] at hI
        rw [Bool.not_true, Bool.false_or] at hI
        have HI := Aside0.mk hI
        clear hI hc
        have e1 : decide (x.f0 < 1) = false := decide_eq_false (by omega)
        have e4 : decide (4096 < (x.f1.size : Int)) = false := decide_eq_false (by omega)
        have e6 : (x.f3 != 0) = false := bne_eq_false_iff_eq.mpr z7
        have e7 : (x.f3 == 0) = true := beq_iff_eq.mpr z7
        go_wp2_with (first
          | ((with_reducible refine gate_dst (N := 54) rfl ?_); refine seg_load rfl 81 (.tmp 53) rfl HX.out (A81 x) rfl rfl hu81 rfl (by rw [L81_len]; exact info81) ?_)
          | ((with_reducible refine gate_store (t := 81) (p := 4) rfl ?_); refine box_store rfl rfl 81 (.tmp 4) (.tmp 54) rfl held (A81 x) rfl rfl (by rw [A81_size]; exact info81) (by rw [A81_size]; rfl) (A81_one x) ?_
             intro wb hxb hgb
             have pb := prev_row hgb
             have hhb : Holds wb wr.heap.size (.cells (A81 x) 81) := ⟨hxb⟩
             have ab : Apart w.heap.size (.row wr.heap.size) := apart_ne (by omega)
             have ob : OwnB w.heap.size (.row wr.heap.size) := own_row (by omega)
             have qb : OwnB (w.heap.size + 1) (.row wr.heap.size) := own_row (by omega)
             clear hxb hgb))
        refine (rnum_c _ x.f0 false z2).mono ?_
        rintro e wn2 ⟨rfl, hb⟩
        have pn2 := prev_call hb
        clear hb
        go_wp2_with fail
        refine (rnum_c _ 0 false rfl).mono ?_
        rintro e wn3 ⟨rfl, hb⟩
        have pn3 := prev_call hb
        clear hb
        go_wp2_with ((with_reducible refine gate_dst (N := 85) rfl ?_); refine gate_guard (by rfl) ?_; dsimp only; refine seg_load rfl 79 (.tmp 84) rfl (At_seg held (fun j u h => A81_sum x j u h)) _ rfl rfl Try.underlying79 rfl (by rw [sumL_len]; exact info79) ?_)
        go_roundw
        case rel => exact ⟨j + 1, by omega, by go_num, HI, ⟨(inferInstance : Bel (w.heap.size + 1) w5 _).out (by omega)⟩⟩
        case measure => simp [intOf]; omega
    · have hI := HI.out
      rw [List.drop_of_length_le (by omega)] at hI
      simp only [List.any_nil] at hI
      subst hI
      clear HI
      go_wp2_with fail
      go_ret
      exact ⟨rfl, bel _ _⟩
theorem refck_any (w : World) (a : S42) (A : Option Addr) (c : Nat) (hr : k81.C w A a.f5.length a.f5) :
    Calls Try.prog 22 #[ansV a A c] w fun e w' => e = .returned (.int .i64 (if ansOk a = true then 0 else 2)) ∧ Below w.heap.size w w' := by
  cases h : ansOk0 a
  · have H := refck_no w a A c h
    unfold ansOk
    rw [h]
    exact H
  · have H := refck_yes w a A c hr h _ rfl
    unfold ansOk
    rw [h, Bool.true_and]
    cases hq : (a.f5.any fun x => !chgOk x)
    · rw [hq] at H
      exact H
    · rw [hq] at H
      exact H
end Go.Proofs.Ytjaneipklpgnlaa.Q

namespace Go.Proofs.Ytjaneipklpgnlaa.Q
open Go Go.RowKit Go.Proofs.YtjaneipklpgnlaaK Go.Proofs.YtjaneipklpgnlaaW.PrintWords Go.Proofs.YtjaneipklpgnlaaW.PrintLast Go.Proofs.YtjaneipklpgnlaaW.PrintMore
set_option linter.unusedSimpArgs false
set_option linter.unusedVariables false
/-! ### An answer's bytes, by the document -/
attribute [local go_sem] A81_size A81_0 A81_1 A81_2 A81_3 A81_g0 A81_g1 A81_g2 A81_g3 cell_held frozen_held
theorem ansOk_all (a : S42) (h : ansOk a = true) : ∀ x ∈ a.f5, chgOk x = true := by
  unfold ansOk at h
  simp only [Bool.and_eq_true, Bool.not_eq_true', List.any_eq_false, Bool.not_eq_false] at h
  intro x hx
  have := h.2 x hx
  simpa using this
set_option maxRecDepth 100000 in
set_option maxHeartbeats 2000000 in
theorem refans_no (w : World) (a : S42) (A : Option Addr) (c : Nat) (hr : k81.C w A a.f5.length a.f5) (h : ansOk a = false) :
    Calls Try.prog 18 #[ansV a A c] w fun e w' => e = .returned (.tuple #[.string ⟨#[]⟩, .int .i64 2]) ∧ Below w.heap.size w w' := by
  have hu42 := Try.underlying42
  have hck := fun (W : World) (hC : k81.C W A a.f5.length a.f5) => refck_any W a A c hC
  rw [h] at hck
  have HCK := Aside0.mk hck
  have HR := Aside0.mk hr
  clear hr h hck
  go_enter Try.func18, Try.ntmps18
  go_wp2_with fail
  refine (HCK.out _ ?hC).mono ?_
  case hC => exact Kd.C_below HR.out (bel _ _)
  rintro e w1 ⟨rfl, hb⟩
  have p1 := prev_call hb
  clear hb
  go_wp2_with fail
  go_ret2
  exact ⟨rfl, bel _ _⟩
set_option maxRecDepth 100000 in
set_option maxHeartbeats 2000000 in
theorem refans_yes (w : World) (a : S42) (A : Option Addr) (c : Nat) (hr : k81.C w A a.f5.length a.f5) (h : ansOk a = true) (t : ByteArray) (q : Int) (hq : ansGo a.f5 (ansL0 a) = (t, q)) :
    Calls Try.prog 18 #[ansV a A c] w fun e w' => e = .returned (.tuple #[.string t, .int .i64 q]) ∧ Below w.heap.size w w' := by
  have hu42 := Try.underlying42
  have hu81 := Try.underlying81
  have hu84 := Try.underlying84
  have hlen := ansOk_len a h
  have HOK := Aside0.mk (ansOk_all a h)
  have hck := fun (W : World) (hC : k81.C W A a.f5.length a.f5) => refck_any W a A c hC
  rw [h, if_pos rfl] at hck
  have HCK := Aside0.mk hck
  have HR := Aside0.mk hr
  have HQ := Aside0.mk hq
  clear hr h hck hq
  go_enter Try.func18, Try.ntmps18
  go_wp2_with fail
  refine (HCK.out _ ?hC).mono ?_
  case hC => exact Kd.C_below HR.out (bel _ _)
  rintro e w1 ⟨rfl, hb⟩
  have p1 := prev_call hb
  have s1 := hb.size
  simp only [World.size_alloc] at s1
  clear hb
  go_wp2_with fail
  refine (number_c _ 1 a.f0).mono ?_
  rintro e w2 ⟨A1, c1, y1, hy1, l1, rfl, hv, hb⟩
  have p2 := prev_call hb
  have s2 := hb.size
  have HV2 := Aside0.mk (Kd.R_lower hv (show w.heap.size + 1 ≤ w1.heap.size by omega))
  clear hb hv
  go_wp2_with fail
  refine (number_c _ 2 a.f1).mono ?_
  rintro e w3 ⟨A3, c3, y3, hy3, l3, rfl, hn, hb⟩
  have p3 := prev_call hb
  have s3 := hb.size
  have HK3 := Aside0.mk (keep84 (rowK HV2.out) hb)
  have HN3 := Aside0.mk hn
  clear hb hn
  go_wp2_with (first | ((with_reducible refine gate_builtin (b := .append) (xs := #[.tmp 19, .tmp 22]) rfl ?_); at_builtin; refine app84 (w.heap.size + 1) w2.heap.size rfl (.tmp 19) (.tmp 22) rfl (.slice A1 y1.length c1) y1 y3 A3 c3 rfl rfl HK3.out HN3.out (by omega) (by (try simp only [List.length_append]); omega) ?_; intro v4 w4 hv4 hb4; have p4 := prev_above hb4; have s4 := hb4.size; have HV4 := Aside0.mk hv4; have HB4 := Aside0.mk hb4; clear hv4 hb4))
  refine (number_c _ 3 a.f2).mono ?_
  rintro e w5 ⟨A5, c5, y5, hy5, l5, rfl, hn, hb⟩
  have p5 := prev_call hb
  have s5 := hb.size
  have HK5 := Aside0.mk (keep84 (rowK HV4.out) hb)
  have HN5 := Aside0.mk hn
  clear hb hn
  go_wp2_with (first | ((with_reducible refine gate_builtin (b := .append) (xs := #[.tmp 24, .tmp 27]) rfl ?_); at_builtin; refine app84 (w.heap.size + 1) w4.heap.size rfl (.tmp 24) (.tmp 27) rfl v4 (y1 ++ y3) y5 A5 c5 rfl rfl HK5.out HN5.out (by omega) (by (try simp only [List.length_append]); omega) ?_; intro v6 w6 hv6 hb6; have p6 := prev_above hb6; have s6 := hb6.size; have HV6 := Aside0.mk hv6; have HB6 := Aside0.mk hb6; clear hv6 hb6))
  refine (number_c _ 4 a.f3).mono ?_
  rintro e w7 ⟨A7, c7, y7, hy7, l7, rfl, hn, hb⟩
  have p7 := prev_call hb
  have s7 := hb.size
  have HK7 := Aside0.mk (keep84 (rowK HV6.out) hb)
  have HN7 := Aside0.mk hn
  clear hb hn
  go_wp2_with (first | ((with_reducible refine gate_builtin (b := .append) (xs := #[.tmp 29, .tmp 32]) rfl ?_); at_builtin; refine app84 (w.heap.size + 1) w6.heap.size rfl (.tmp 29) (.tmp 32) rfl v6 ((y1 ++ y3) ++ y5) y7 A7 c7 rfl rfl HK7.out HN7.out (by omega) (by (try simp only [List.length_append]); omega) ?_; intro v8 w8 hv8 hb8; have p8 := prev_above hb8; have s8 := hb8.size; have HV8 := Aside0.mk hv8; have HB8 := Aside0.mk hb8; clear hv8 hb8))
  refine (rtext_c _ 5 a.f4).mono ?_
  rintro e w9 ⟨A9, c9, y9, hy9, l9, rfl, hn, hb⟩
  have p9 := prev_call hb
  have s9 := hb.size
  have HK9 := Aside0.mk (keep84 (rowK HV8.out) hb)
  have HN9 := Aside0.mk hn
  clear hb hn
  go_wp2_with (first | ((with_reducible refine gate_builtin (b := .append) (xs := #[.tmp 34, .tmp 37]) rfl ?_); at_builtin; refine app84 (w.heap.size + 1) w8.heap.size rfl (.tmp 34) (.tmp 37) rfl v8 (((y1 ++ y3) ++ y5) ++ y7) y9 A9 c9 rfl rfl HK9.out HN9.out (by omega) (by (try simp only [List.length_append]); omega) ?_; intro v10 w10 hv10 hb10; have p10 := prev_above hb10; have s10 := hb10.size; have HV10 := Aside0.mk hv10; have HB10 := Aside0.mk hb10; clear hv10 hb10))
  go_loopw [5, 6] (fun u i wr => ∃ j : Nat, ∃ L : List S84, j ≤ a.f5.length ∧ i = .int .i64 (j : Int) ∧ Aside0 (ansGo (a.f5.drop j) L = (t, q)) ∧ L.length ≤ 5 + j ∧ Aside0 (Kd.R k84 84 wr (w.heap.size + 1) (fun _ => True) u L) ∧ Aside0 (Below (w.heap.size + 1) w10 wr)) (fun u i _ => a.f5.length - (intOf i).toNat)
  case atStart => exact ⟨0, _, Nat.zero_le _, rfl, ⟨by rw [hy1.out, hy3.out, hy5.out, hy7.out, hy9.out, ← ansL0_ref]; exact HQ.out⟩, by (try simp only [List.length_append]); omega, HV10, ⟨Below.refl _ _⟩⟩
  case round =>
    obtain ⟨j, L, hj, rfl, HI, hl, HU, HBr⟩ := hrel
    have pr := prev_above HBr.out
    have sr := HBr.out.size
    obtain ⟨A0, c0, rfl⟩ := Kd.R_slice HU.out
    by_cases hlt : j < a.f5.length
    · obtain ⟨ad, e, x0⟩ := C81_at HR.out j hlt
      subst e
      have hd := List.drop_eq_getElem_cons hlt
      have hI := HI.out
      rw [hd] at hI
      have hk := HOK.out _ (List.getElem_mem hlt)
      generalize a.f5[j] = x at x0 hI hk
      obtain ⟨b, he, hm⟩ := ansGo_ref x _ L t q hk hI
      have HX := Aside0.mk (At_below x0 (bel w wr))
      clear hd x0 hI HI
      cases hg : x.f2
      · have hl0 := recL_live x hg
        rw [hl0] at he
        have HE := Aside0.mk he
        clear hl0 he hk
        rcases hm with ⟨h4, rfl, rfl⟩ | ⟨h4, hI⟩
        · replace h4 : (4096 : Int) < (b.size : Int) := by omega
          go_wp2_with (first
            | ((with_reducible refine gate_dst (N := 50) rfl ?_); refine seg_load rfl 81 (.tmp 49) rfl HX.out (A81 x) rfl rfl hu81 rfl (by rw [L81_len]; exact info81) ?_)
            | ((with_reducible refine gate_store (t := 81) (p := 7) rfl ?_); refine box_store rfl rfl 81 (.tmp 7) (.tmp 50) rfl held (A81 x) rfl rfl (by rw [A81_size]; exact info81) (by rw [A81_size]; rfl) (A81_one x) ?_
               intro wb hxb hgb
               have pb := prev_row hgb
               have hhb : Holds wb wr.heap.size (.cells (A81 x) 81) := ⟨hxb⟩
               have ab : Apart w.heap.size (.row wr.heap.size) := apart_ne (by omega)
               have ob : OwnB w.heap.size (.row wr.heap.size) := own_row (by omega)
               have qb : OwnB (w.heap.size + 1) (.row wr.heap.size) := own_row (by omega)
               have sb := hgb.size
               simp only [World.size_alloc] at sb
               have a1 : Apart w.heap.size (.above wb.heap.size) := apart_lt (by omega)
               have a2 : Apart wr.heap.size (.above wb.heap.size) := apart_lt (by omega)
               have o1 : OwnB w.heap.size (.above wb.heap.size) := own_above (by omega)
               have o2 : OwnB (w.heap.size + 1) (.above wb.heap.size) := own_above (by omega)
               have o3 : OwnB wr.heap.size (.above wb.heap.size) := own_above (by omega)
               clear hxb hgb))
          refine (number_c _ 1 x.f0).mono ?_
          rintro e w20 ⟨A20, c20, y20, hy20, l20, rfl, hv, hb⟩
          have p20 := prev_call hb
          have s20 := hb.size
          have HV20 := Aside0.mk hv
          clear hb hv
          go_wp2_with fail
          refine (rtext_c _ 2 x.f1).mono ?_
          rintro e w21 ⟨A21, c21, y21, hy21, l21, rfl, hn, hb⟩
          have p21 := prev_call hb
          have s21 := hb.size
          have HK21 := Aside0.mk (keep84 (HV20.out) hb)
          have HN21 := Aside0.mk hn
          clear hb hn
          go_wp2_with (first | ((with_reducible refine gate_builtin (b := .append) (xs := #[.tmp 54, .tmp 57]) rfl ?_); at_builtin; refine app84 wb.heap.size w20.heap.size rfl (.tmp 54) (.tmp 57) rfl (.slice A20 y20.length c20) y20 y21 A21 c21 rfl rfl HK21.out HN21.out (by omega) (by (try simp only [List.length_append]); omega) ?_; intro v22 w22 hv22 hb22; have p22 := prev_above hb22; have s22 := hb22.size; have HV22 := Aside0.mk hv22; have HB22 := Aside0.mk hb22; clear hv22 hb22))
          refine (number_c _ 4 x.f3).mono ?_
          rintro e w23 ⟨A23, c23, y23, hy23, l23, rfl, hn, hb⟩
          have p23 := prev_call hb
          have s23 := hb.size
          have HK23 := Aside0.mk (keep84 (HV22.out) hb)
          have HN23 := Aside0.mk hn
          clear hb hn
          go_wp2_with (first | ((with_reducible refine gate_builtin (b := .append) (xs := #[.tmp 64, .tmp 67]) rfl ?_); at_builtin; refine app84 wb.heap.size w22.heap.size rfl (.tmp 64) (.tmp 67) rfl v22 (y20 ++ y21) y23 A23 c23 rfl rfl HK23.out HN23.out (by omega) (by (try simp only [List.length_append]); omega) ?_; intro v24 w24 hv24 hb24; have p24 := prev_above hb24; have s24 := hb24.size; have HV24 := Aside0.mk hv24; have HB24 := Aside0.mk hb24; clear hv24 hb24) | ((with_reducible refine gate_dst (N := 72) rfl ?_); refine sumstr_event rfl (src := 38) (dst := 9) (e := 5) rfl (At_seg held (fun j u h => A81_sum x j u h)) rfl Try.underlying38 Try.underlying5 Try.underlying9 ?_))
          refine (rtext_c _ 5 (sumS x.f4)).mono ?_
          rintro e w25 ⟨A25, c25, y25, hy25, l25, rfl, hn, hb⟩
          have p25 := prev_call hb
          have s25 := hb.size
          have HK25 := Aside0.mk (keep84 (HV24.out) hb)
          have HN25 := Aside0.mk hn
          clear hb hn
          go_wp2_with (first | ((with_reducible refine gate_builtin (b := .append) (xs := #[.tmp 69, .tmp 73]) rfl ?_); at_builtin; refine app84 wb.heap.size w24.heap.size rfl (.tmp 69) (.tmp 73) rfl v24 ((y20 ++ y21) ++ y23) y25 A25 c25 rfl rfl HK25.out HN25.out (by omega) (by (try simp only [List.length_append]); omega) ?_; intro v26 w26 hv26 hb26; have p26 := prev_above hb26; have s26 := hb26.size; have HV26 := Aside0.mk hv26; have HB26 := Aside0.mk hb26; clear hv26 hb26))
          refine (renc_c HV26.out (by (try simp only [List.length_append]); omega) b 0 (by rw [hy20.out, hy21.out, hy23.out, hy25.out]; exact HE.out)).mono ?_
          rintro e w30 ⟨rfl, hb⟩
          have p30 := prev_call hb
          have s30 := hb.size
          clear hb
          go_wp2_with fail
          go_ret2
          exact ⟨rfl, bel _ _⟩
        · replace h4 : ¬ (4096 : Int) < (b.size : Int) := by omega
          have HI := Aside0.mk hI
          clear hI
          go_wp2_with (first
            | ((with_reducible refine gate_dst (N := 50) rfl ?_); refine seg_load rfl 81 (.tmp 49) rfl HX.out (A81 x) rfl rfl hu81 rfl (by rw [L81_len]; exact info81) ?_)
            | ((with_reducible refine gate_store (t := 81) (p := 7) rfl ?_); refine box_store rfl rfl 81 (.tmp 7) (.tmp 50) rfl held (A81 x) rfl rfl (by rw [A81_size]; exact info81) (by rw [A81_size]; rfl) (A81_one x) ?_
               intro wb hxb hgb
               have pb := prev_row hgb
               have hhb : Holds wb wr.heap.size (.cells (A81 x) 81) := ⟨hxb⟩
               have ab : Apart w.heap.size (.row wr.heap.size) := apart_ne (by omega)
               have ob : OwnB w.heap.size (.row wr.heap.size) := own_row (by omega)
               have qb : OwnB (w.heap.size + 1) (.row wr.heap.size) := own_row (by omega)
               have sb := hgb.size
               simp only [World.size_alloc] at sb
               have a1 : Apart w.heap.size (.above wb.heap.size) := apart_lt (by omega)
               have a2 : Apart wr.heap.size (.above wb.heap.size) := apart_lt (by omega)
               have o1 : OwnB w.heap.size (.above wb.heap.size) := own_above (by omega)
               have o2 : OwnB (w.heap.size + 1) (.above wb.heap.size) := own_above (by omega)
               have o3 : OwnB wr.heap.size (.above wb.heap.size) := own_above (by omega)
               clear hxb hgb))
          refine (number_c _ 1 x.f0).mono ?_
          rintro e w20 ⟨A20, c20, y20, hy20, l20, rfl, hv, hb⟩
          have p20 := prev_call hb
          have s20 := hb.size
          have HV20 := Aside0.mk hv
          clear hb hv
          go_wp2_with fail
          refine (rtext_c _ 2 x.f1).mono ?_
          rintro e w21 ⟨A21, c21, y21, hy21, l21, rfl, hn, hb⟩
          have p21 := prev_call hb
          have s21 := hb.size
          have HK21 := Aside0.mk (keep84 (HV20.out) hb)
          have HN21 := Aside0.mk hn
          clear hb hn
          go_wp2_with (first | ((with_reducible refine gate_builtin (b := .append) (xs := #[.tmp 54, .tmp 57]) rfl ?_); at_builtin; refine app84 wb.heap.size w20.heap.size rfl (.tmp 54) (.tmp 57) rfl (.slice A20 y20.length c20) y20 y21 A21 c21 rfl rfl HK21.out HN21.out (by omega) (by (try simp only [List.length_append]); omega) ?_; intro v22 w22 hv22 hb22; have p22 := prev_above hb22; have s22 := hb22.size; have HV22 := Aside0.mk hv22; have HB22 := Aside0.mk hb22; clear hv22 hb22))
          refine (number_c _ 4 x.f3).mono ?_
          rintro e w23 ⟨A23, c23, y23, hy23, l23, rfl, hn, hb⟩
          have p23 := prev_call hb
          have s23 := hb.size
          have HK23 := Aside0.mk (keep84 (HV22.out) hb)
          have HN23 := Aside0.mk hn
          clear hb hn
          go_wp2_with (first | ((with_reducible refine gate_builtin (b := .append) (xs := #[.tmp 64, .tmp 67]) rfl ?_); at_builtin; refine app84 wb.heap.size w22.heap.size rfl (.tmp 64) (.tmp 67) rfl v22 (y20 ++ y21) y23 A23 c23 rfl rfl HK23.out HN23.out (by omega) (by (try simp only [List.length_append]); omega) ?_; intro v24 w24 hv24 hb24; have p24 := prev_above hb24; have s24 := hb24.size; have HV24 := Aside0.mk hv24; have HB24 := Aside0.mk hb24; clear hv24 hb24) | ((with_reducible refine gate_dst (N := 72) rfl ?_); refine sumstr_event rfl (src := 38) (dst := 9) (e := 5) rfl (At_seg held (fun j u h => A81_sum x j u h)) rfl Try.underlying38 Try.underlying5 Try.underlying9 ?_))
          refine (rtext_c _ 5 (sumS x.f4)).mono ?_
          rintro e w25 ⟨A25, c25, y25, hy25, l25, rfl, hn, hb⟩
          have p25 := prev_call hb
          have s25 := hb.size
          have HK25 := Aside0.mk (keep84 (HV24.out) hb)
          have HN25 := Aside0.mk hn
          clear hb hn
          go_wp2_with (first | ((with_reducible refine gate_builtin (b := .append) (xs := #[.tmp 69, .tmp 73]) rfl ?_); at_builtin; refine app84 wb.heap.size w24.heap.size rfl (.tmp 69) (.tmp 73) rfl v24 ((y20 ++ y21) ++ y23) y25 A25 c25 rfl rfl HK25.out HN25.out (by omega) (by (try simp only [List.length_append]); omega) ?_; intro v26 w26 hv26 hb26; have p26 := prev_above hb26; have s26 := hb26.size; have HV26 := Aside0.mk hv26; have HB26 := Aside0.mk hb26; clear hv26 hb26))
          refine (renc_c HV26.out (by (try simp only [List.length_append]); omega) b 0 (by rw [hy20.out, hy21.out, hy23.out, hy25.out]; exact HE.out)).mono ?_
          rintro e w30 ⟨rfl, hb⟩
          have p30 := prev_call hb
          have s30 := hb.size
          clear hb
          go_wp2_with fail
          refine (rtext_c _ 6 b).mono ?_
          rintro e w31 ⟨A31, c31, y31, hy31, l31, rfl, hn, hb⟩
          have p31 := prev_call hb
          have s31 := hb.size
          have HK31 := Aside0.mk (keep84 (rowB HU.out (bel wr _)) hb)
          have HN31 := Aside0.mk hn
          clear hb hn
          go_wp2_with (first | ((with_reducible refine gate_builtin (b := .append) (xs := #[.tmp 83, .tmp 85]) rfl ?_); at_builtin; refine app84 (w.heap.size + 1) w30.heap.size rfl (.tmp 83) (.tmp 85) rfl (.slice A0 L.length c0) L y31 A31 c31 rfl rfl HK31.out HN31.out (by omega) (by (try simp only [List.length_append]); omega) ?_; intro v32 w32 hv32 hb32; have p32 := prev_above hb32; have s32 := hb32.size; have HV32 := Aside0.mk hv32; have HB32 := Aside0.mk hb32; clear hv32 hb32))
          go_roundw
          case rel => exact ⟨j + 1, L ++ y31, by omega, by go_num, ⟨by rw [hy31.out]; exact HI.out⟩, by (try simp only [List.length_append]); omega, HV32, ⟨(inferInstance : Bel (w.heap.size + 1) w10 _).out (by omega)⟩⟩
          case measure => simp [intOf]; omega
      · have hl0 := recL_gone x hg hk
        rw [hl0] at he
        have HE := Aside0.mk he
        clear hl0 he hk
        rcases hm with ⟨h4, rfl, rfl⟩ | ⟨h4, hI⟩
        · replace h4 : (4096 : Int) < (b.size : Int) := by omega
          go_wp2_with (first
            | ((with_reducible refine gate_dst (N := 50) rfl ?_); refine seg_load rfl 81 (.tmp 49) rfl HX.out (A81 x) rfl rfl hu81 rfl (by rw [L81_len]; exact info81) ?_)
            | ((with_reducible refine gate_store (t := 81) (p := 7) rfl ?_); refine box_store rfl rfl 81 (.tmp 7) (.tmp 50) rfl held (A81 x) rfl rfl (by rw [A81_size]; exact info81) (by rw [A81_size]; rfl) (A81_one x) ?_
               intro wb hxb hgb
               have pb := prev_row hgb
               have hhb : Holds wb wr.heap.size (.cells (A81 x) 81) := ⟨hxb⟩
               have ab : Apart w.heap.size (.row wr.heap.size) := apart_ne (by omega)
               have ob : OwnB w.heap.size (.row wr.heap.size) := own_row (by omega)
               have qb : OwnB (w.heap.size + 1) (.row wr.heap.size) := own_row (by omega)
               have sb := hgb.size
               simp only [World.size_alloc] at sb
               have a1 : Apart w.heap.size (.above wb.heap.size) := apart_lt (by omega)
               have a2 : Apart wr.heap.size (.above wb.heap.size) := apart_lt (by omega)
               have o1 : OwnB w.heap.size (.above wb.heap.size) := own_above (by omega)
               have o2 : OwnB (w.heap.size + 1) (.above wb.heap.size) := own_above (by omega)
               have o3 : OwnB wr.heap.size (.above wb.heap.size) := own_above (by omega)
               clear hxb hgb))
          refine (number_c _ 1 x.f0).mono ?_
          rintro e w20 ⟨A20, c20, y20, hy20, l20, rfl, hv, hb⟩
          have p20 := prev_call hb
          have s20 := hb.size
          have HV20 := Aside0.mk hv
          clear hb hv
          go_wp2_with fail
          refine (rtext_c _ 2 x.f1).mono ?_
          rintro e w21 ⟨A21, c21, y21, hy21, l21, rfl, hn, hb⟩
          have p21 := prev_call hb
          have s21 := hb.size
          have HK21 := Aside0.mk (keep84 (HV20.out) hb)
          have HN21 := Aside0.mk hn
          clear hb hn
          go_wp2_with (first | ((with_reducible refine gate_builtin (b := .append) (xs := #[.tmp 54, .tmp 57]) rfl ?_); at_builtin; refine app84 wb.heap.size w20.heap.size rfl (.tmp 54) (.tmp 57) rfl (.slice A20 y20.length c20) y20 y21 A21 c21 rfl rfl HK21.out HN21.out (by omega) (by (try simp only [List.length_append]); omega) ?_; intro v22 w22 hv22 hb22; have p22 := prev_above hb22; have s22 := hb22.size; have HV22 := Aside0.mk hv22; have HB22 := Aside0.mk hb22; clear hv22 hb22))
          refine (number_c _ 3 1).mono ?_
          rintro e w23 ⟨A23, c23, y23, hy23, l23, rfl, hn, hb⟩
          have p23 := prev_call hb
          have s23 := hb.size
          have HK23 := Aside0.mk (keep84 (HV22.out) hb)
          have HN23 := Aside0.mk hn
          clear hb hn
          go_wp2_with (first | ((with_reducible refine gate_builtin (b := .append) (xs := #[.tmp 61, .tmp 62]) rfl ?_); at_builtin; refine app84 wb.heap.size w22.heap.size rfl (.tmp 61) (.tmp 62) rfl v22 (y20 ++ y21) y23 A23 c23 rfl rfl HK23.out HN23.out (by omega) (by (try simp only [List.length_append]); omega) ?_; intro v24 w24 hv24 hb24; have p24 := prev_above hb24; have s24 := hb24.size; have HV24 := Aside0.mk hv24; have HB24 := Aside0.mk hb24; clear hv24 hb24))
          refine (renc_c HV24.out (by (try simp only [List.length_append]); omega) b 0 (by rw [hy20.out, hy21.out, hy23.out]; exact HE.out)).mono ?_
          rintro e w30 ⟨rfl, hb⟩
          have p30 := prev_call hb
          have s30 := hb.size
          clear hb
          go_wp2_with fail
          go_ret2
          exact ⟨rfl, bel _ _⟩
        · replace h4 : ¬ (4096 : Int) < (b.size : Int) := by omega
          have HI := Aside0.mk hI
          clear hI
          go_wp2_with (first
            | ((with_reducible refine gate_dst (N := 50) rfl ?_); refine seg_load rfl 81 (.tmp 49) rfl HX.out (A81 x) rfl rfl hu81 rfl (by rw [L81_len]; exact info81) ?_)
            | ((with_reducible refine gate_store (t := 81) (p := 7) rfl ?_); refine box_store rfl rfl 81 (.tmp 7) (.tmp 50) rfl held (A81 x) rfl rfl (by rw [A81_size]; exact info81) (by rw [A81_size]; rfl) (A81_one x) ?_
               intro wb hxb hgb
               have pb := prev_row hgb
               have hhb : Holds wb wr.heap.size (.cells (A81 x) 81) := ⟨hxb⟩
               have ab : Apart w.heap.size (.row wr.heap.size) := apart_ne (by omega)
               have ob : OwnB w.heap.size (.row wr.heap.size) := own_row (by omega)
               have qb : OwnB (w.heap.size + 1) (.row wr.heap.size) := own_row (by omega)
               have sb := hgb.size
               simp only [World.size_alloc] at sb
               have a1 : Apart w.heap.size (.above wb.heap.size) := apart_lt (by omega)
               have a2 : Apart wr.heap.size (.above wb.heap.size) := apart_lt (by omega)
               have o1 : OwnB w.heap.size (.above wb.heap.size) := own_above (by omega)
               have o2 : OwnB (w.heap.size + 1) (.above wb.heap.size) := own_above (by omega)
               have o3 : OwnB wr.heap.size (.above wb.heap.size) := own_above (by omega)
               clear hxb hgb))
          refine (number_c _ 1 x.f0).mono ?_
          rintro e w20 ⟨A20, c20, y20, hy20, l20, rfl, hv, hb⟩
          have p20 := prev_call hb
          have s20 := hb.size
          have HV20 := Aside0.mk hv
          clear hb hv
          go_wp2_with fail
          refine (rtext_c _ 2 x.f1).mono ?_
          rintro e w21 ⟨A21, c21, y21, hy21, l21, rfl, hn, hb⟩
          have p21 := prev_call hb
          have s21 := hb.size
          have HK21 := Aside0.mk (keep84 (HV20.out) hb)
          have HN21 := Aside0.mk hn
          clear hb hn
          go_wp2_with (first | ((with_reducible refine gate_builtin (b := .append) (xs := #[.tmp 54, .tmp 57]) rfl ?_); at_builtin; refine app84 wb.heap.size w20.heap.size rfl (.tmp 54) (.tmp 57) rfl (.slice A20 y20.length c20) y20 y21 A21 c21 rfl rfl HK21.out HN21.out (by omega) (by (try simp only [List.length_append]); omega) ?_; intro v22 w22 hv22 hb22; have p22 := prev_above hb22; have s22 := hb22.size; have HV22 := Aside0.mk hv22; have HB22 := Aside0.mk hb22; clear hv22 hb22))
          refine (number_c _ 3 1).mono ?_
          rintro e w23 ⟨A23, c23, y23, hy23, l23, rfl, hn, hb⟩
          have p23 := prev_call hb
          have s23 := hb.size
          have HK23 := Aside0.mk (keep84 (HV22.out) hb)
          have HN23 := Aside0.mk hn
          clear hb hn
          go_wp2_with (first | ((with_reducible refine gate_builtin (b := .append) (xs := #[.tmp 61, .tmp 62]) rfl ?_); at_builtin; refine app84 wb.heap.size w22.heap.size rfl (.tmp 61) (.tmp 62) rfl v22 (y20 ++ y21) y23 A23 c23 rfl rfl HK23.out HN23.out (by omega) (by (try simp only [List.length_append]); omega) ?_; intro v24 w24 hv24 hb24; have p24 := prev_above hb24; have s24 := hb24.size; have HV24 := Aside0.mk hv24; have HB24 := Aside0.mk hb24; clear hv24 hb24))
          refine (renc_c HV24.out (by (try simp only [List.length_append]); omega) b 0 (by rw [hy20.out, hy21.out, hy23.out]; exact HE.out)).mono ?_
          rintro e w30 ⟨rfl, hb⟩
          have p30 := prev_call hb
          have s30 := hb.size
          clear hb
          go_wp2_with fail
          refine (rtext_c _ 6 b).mono ?_
          rintro e w31 ⟨A31, c31, y31, hy31, l31, rfl, hn, hb⟩
          have p31 := prev_call hb
          have s31 := hb.size
          have HK31 := Aside0.mk (keep84 (rowB HU.out (bel wr _)) hb)
          have HN31 := Aside0.mk hn
          clear hb hn
          go_wp2_with (first | ((with_reducible refine gate_builtin (b := .append) (xs := #[.tmp 83, .tmp 85]) rfl ?_); at_builtin; refine app84 (w.heap.size + 1) w30.heap.size rfl (.tmp 83) (.tmp 85) rfl (.slice A0 L.length c0) L y31 A31 c31 rfl rfl HK31.out HN31.out (by omega) (by (try simp only [List.length_append]); omega) ?_; intro v32 w32 hv32 hb32; have p32 := prev_above hb32; have s32 := hb32.size; have HV32 := Aside0.mk hv32; have HB32 := Aside0.mk hb32; clear hv32 hb32))
          go_roundw
          case rel => exact ⟨j + 1, L ++ y31, by omega, by go_num, ⟨by rw [hy31.out]; exact HI.out⟩, by (try simp only [List.length_append]); omega, HV32, ⟨(inferInstance : Bel (w.heap.size + 1) w10 _).out (by omega)⟩⟩
          case measure => simp [intOf]; omega
    · have hI := HI.out
      rw [List.drop_of_length_le (by omega)] at hI
      have HI' := Aside0.mk hI
      clear hI HI
      go_wp2_with fail
      refine (renc_c HU.out (by omega) _ _ HI'.out).mono ?_
      rintro e w5 ⟨rfl, hb⟩
      have p5 := prev_call hb
      clear hb
      go_wp2_with fail
      go_ret2
      exact ⟨rfl, bel _ _⟩
theorem refans_any (w : World) (a : S42) (A : Option Addr) (c : Nat) (hr : k81.C w A a.f5.length a.f5) :
    Calls Try.prog 18 #[ansV a A c] w fun e w' => e = .returned (.tuple #[.string (ansS a).1, .int .i64 (ansS a).2]) ∧ Below w.heap.size w w' := by
  unfold ansS
  cases h : ansOk a
  · exact refans_no w a A c hr h
  · exact refans_yes w a A c hr h _ _ rfl
end Go.Proofs.Ytjaneipklpgnlaa.Q

namespace Go.Proofs.Ytjaneipklpgnlaa.Q
open Go Go.RowKit Go.Proofs.YtjaneipklpgnlaaK Go.Proofs.YtjaneipklpgnlaaW.PrintWords Go.Proofs.YtjaneipklpgnlaaW.PrintLast Go.Proofs.YtjaneipklpgnlaaW.PrintMore
set_option linter.unusedSimpArgs false
set_option linter.unusedVariables false
/-! ### An answer off its bytes, by the document -/
/-- The sum, as far as k bytes of t are in it. -/
def preS (t : ByteArray) (k : Nat) : Sum := ⟨(t.data.toList.take k ++ List.replicate 32 0).take 32, by rw [List.length_take]; simp⟩
theorem preS_0 (t : ByteArray) : preS t 0 = sum0 := Sum.eq rfl
theorem preS_end (t : ByteArray) (k : Nat) (h : k = t.size ∨ k = 32) : preS t k = sumOf t := by
  apply Sum.eq
  simp only [preS, sumOf]
  have hl : t.data.toList.length = t.size := by simp
  rcases h with h | h
  · have h1 : t.data.toList.take k = t.data.toList := List.take_of_length_le (by omega)
    rw [h1]
  · subst h
    apply List.ext_getElem?
    intro i
    simp only [List.getElem?_take, List.getElem?_append, List.length_take, hl]
    by_cases h32 : i < 32
    · by_cases hi : i < t.size
      · have e0 : i < min 32 t.size := by omega
        simp [h32, hi, e0]
      · have e1 : ¬ i < min 32 t.size := by omega
        have e2 : min 32 t.size = t.size := by omega
        simp [h32, hi, e1, e2]
    · simp [h32]
theorem preS_step (t : ByteArray) (k : Nat) (h : k < t.size) (h32 : k < 32) : sumL (preS t (k + 1)) = (sumL (preS t k)).set k (.int .u8 ((t[k]).toNat : Int)) := by
  have hl : t.data.toList.length = t.size := by simp
  have hk : t.data.toList[k]? = some t[k] := by
    rw [List.getElem?_eq_getElem (by omega)]
    simp
    rfl
  apply List.ext_getElem?
  intro i
  simp only [sumL, preS, List.getElem?_set, List.getElem?_map, List.getElem?_take, List.getElem?_append, List.length_map, List.length_take, List.length_append, List.length_replicate, hl]
  by_cases hi : i < 32
  · by_cases hik : k = i
    · subst hik
      have e1 : k < min (k + 1) t.size := by omega
      have e2 : k < min 32 (min k t.size + 32) := by omega
      simp [h32, e1, e2, hk]
    · by_cases hlt : i < k
      · have e1 : i < min (k + 1) t.size := by omega
        have e2 : i < min k t.size := by omega
        have e3 : i < k + 1 := by omega
        simp [hi, hik, e1, e2, hlt, e3]
      · have e1 : ¬ i < min (k + 1) t.size := by omega
        have e2 : ¬ i < min k t.size := by omega
        have e3 : i - min (k + 1) t.size < 32 := by omega
        have e4 : i - min k t.size < 32 := by omega
        have r : ∀ n, n < 32 → (List.replicate 32 (0 : UInt8))[n]? = some 0 := fun n hn => by rw [List.getElem?_replicate, if_pos hn]
        rw [if_pos hi, if_neg e1, r _ e3, if_neg hik, if_pos hi, if_neg e2, r _ e4]
  · have hik : ¬ k = i := by omega
    simp [hi, hik]
theorem A81_put (a : Int) (b : ByteArray) (c : Bool) (e : Int) (t : ByteArray) (k : Nat) (h : k < t.size) (h32 : k < 32) (n : Nat) (hn : n = 4 + k) : (A81 ⟨a, b, c, e, preS t k⟩).setIfInBounds n (.int .u8 ((t[k]).toNat : Int)) = A81 ⟨a, b, c, e, preS t (k + 1)⟩ := by
  subst hn
  simp only [A81, L81]
  rw [preS_step t k h h32, Nat.add_comm 4 k]
  rw [List.setIfInBounds_toArray]
  rfl
theorem texts_small (s : ByteArray) : ∀ x ∈ textsOf (decS s).1 6, x.size ≤ 65536 := by
  intro x hx
  rcases decS_total s with h | h
  · have hd : decS s = ((decS s).1, 0) := Prod.ext rfl h
    obtain ⟨hv, hl, _⟩ := (decS_iff s _).1 hd
    unfold textsOf at hx
    obtain ⟨f, hf, rfl⟩ := List.mem_map.1 hx
    have hm := (List.mem_filter.1 hf).1
    have : ∀ (L : List S84) (b : Int), valid L b → f ∈ L → f.f3.size ≤ 4096 := by
      intro L
      induction L with
      | nil => intro b _ h; simp at h
      | cons g l ih =>
        intro b hv hm
        rcases List.mem_cons.1 hm with rfl | hm
        · have h1 := hv.1
          unfold fault at h1
          split at h1
          · simp at h1
          · split at h1
            · simp at h1
            · omega
        · exact ih _ hv.2 hm
    have := this _ _ hv hm
    omega
  · rw [h] at hx
    simp [textsOf] at hx
attribute [local go_sem] cell_held frozen_held
set_option maxRecDepth 100000 in
set_option maxHeartbeats 2000000 in
theorem rra_no (w : World) (s : ByteArray) (hs : s.size ≤ 65536) (hd : (decS s).2 ≠ 0) :
    Calls Try.prog 20 #[.string s] w fun e w' => ∃ v, e = .returned (.tuple #[ansW ans0 v, .int .i64 5]) ∧ Kd.R k81 81 w' w.heap.size (fun _ => True) v [] ∧ Below w.heap.size w w' := by
  have hu42 := Try.underlying42
  have hc := fun W => rdec_c W s hs
  obtain ⟨L, q, hq⟩ : ∃ L q, decS s = (L, q) := ⟨_, _, rfl⟩
  rw [hq] at hc hd
  simp only at hc hd
  have hz1 : (q == 0) = false := beq_eq_false_iff_ne.mpr hd
  have hz2 : (q != 0) = true := bne_iff_ne.mpr hd
  have HC := Aside0.mk hc
  clear hc hd hq
  go_enter Try.func20, Try.ntmps20
  go_wp2_with ((with_reducible refine gate_dst (N := 2) rfl ?_); refine new_event rfl (N := 2) rfl (ob := .cells Z42 42) (by go_simp; rfl) ?_; intro wa pa ha)
  refine (HC.out _).mono ?_
  rintro e w1 ⟨v, rfl, hv, hb⟩
  have p1 := prev_call hb
  clear hb hv
  go_wp2_with (refine box_store rfl rfl 42 (.tmp 2) (.tmp 22) rfl held Z42 rfl rfl info42 (by rfl) (by rfl) ?_
               intro wz hxz hgz
               have pz := prev_row hgz
               have HZ := Aside0.mk hxz
               clear hxz hgz)
  refine bodyPost_ret (results_row_tmp rfl _ _ (.int .i64 5) HZ.out rfl rfl hu42 rfl info42) rfl ?_
  exact ⟨_, rfl, Kd.R_nil _ _ _ _ _, bel _ _⟩
attribute [local go_sem] laid81 A81_size A81_0 A81_1 A81_2 A81_3 A81_g0 A81_g1 A81_g2 A81_g3
set_option maxRecDepth 100000 in
set_option maxHeartbeats 2000000 in
theorem rra_walk (w : World) (s : ByteArray) (L : List S84) (n1 n2 n3 n4 : Int) (d5 : ByteArray) (T : List ByteArray) (hT : T.length ≤ 1048576) (hsz : ∀ x ∈ T, x.size ≤ 65536)
    (hc : ∀ W, Calls Try.prog 36 #[.string s] W fun e w' => ∃ v, e = .returned (.tuple #[v, .int .i64 0]) ∧ Kd.R k84 84 w' W.heap.size (fun _ => True) v L ∧ Below W.heap.size W w')
    (g1 : ∀ W base v, Kd.R k84 84 W base (fun _ => True) v L → Calls Try.prog 37 #[v, .int .i64 1] W fun e w' => e = .returned (.int .i64 n1) ∧ Below W.heap.size W w')
    (g2 : ∀ W base v, Kd.R k84 84 W base (fun _ => True) v L → Calls Try.prog 37 #[v, .int .i64 2] W fun e w' => e = .returned (.int .i64 n2) ∧ Below W.heap.size W w')
    (g3 : ∀ W base v, Kd.R k84 84 W base (fun _ => True) v L → Calls Try.prog 37 #[v, .int .i64 3] W fun e w' => e = .returned (.int .i64 n3) ∧ Below W.heap.size W w')
    (g4 : ∀ W base v, Kd.R k84 84 W base (fun _ => True) v L → Calls Try.prog 37 #[v, .int .i64 4] W fun e w' => e = .returned (.int .i64 n4) ∧ Below W.heap.size W w')
    (g5 : ∀ W base v, Kd.R k84 84 W base (fun _ => True) v L → Calls Try.prog 38 #[v, .int .i64 5] W fun e w' => e = .returned (.string d5) ∧ Below W.heap.size W w')
    (g6 : ∀ W base v, Kd.R k84 84 W base (fun _ => True) v L → Calls Try.prog 48 #[v, .int .i64 6] W fun e w' => ∃ v, e = .returned v ∧ Kd.R Kd.string 9 w' W.heap.size (fun _ => True) v T ∧ Below W.heap.size W w')
    (t : ByteArray) (e2 : Int) (han : ∀ W A n c, n = (T.map unrS).length → k81.C W A (T.map unrS).length (T.map unrS) → Calls Try.prog 18 #[.agg #[.int .i64 n1, .int .i64 n2, .int .i64 n3, .int .i64 n4, .string d5, .slice A n c]] W fun e w' => e = .returned (.tuple #[.string t, .int .i64 e2]) ∧ Below W.heap.size W w')
    (ok : Bool) (hok : ok = true ↔ e2 = 0 ∧ t.toList = s.toList) :
    Calls Try.prog 20 #[.string s] w fun e w' => ∃ v, e = .returned (.tuple #[ansW (if ok then ⟨n1, n2, n3, n4, d5, T.map unrS⟩ else ans0) v, .int .i64 (if ok then 0 else 5)]) ∧ Kd.R k81 81 w' w.heap.size (fun _ => True) v (if ok then T.map unrS else []) ∧ Below w.heap.size w w' := by
  have hu42 := Try.underlying42
  have hu81 := Try.underlying81
  have HC := Aside0.mk hc
  have HG1 := Aside0.mk g1
  have HG2 := Aside0.mk g2
  have HG3 := Aside0.mk g3
  have HG4 := Aside0.mk g4
  have HG5 := Aside0.mk g5
  have HG6 := Aside0.mk g6
  have HAN := Aside0.mk han
  have HOK := Aside0.mk hok
  have HSZ := Aside0.mk hsz
  clear hc g1 g2 g3 g4 g5 g6 han hok hsz
  go_enter Try.func20, Try.ntmps20
  go_wp2_with ((with_reducible refine gate_dst (N := 2) rfl ?_); refine new_event rfl (N := 2) rfl (ob := .cells Z42 42) (by go_simp; rfl) ?_; intro w0 p0 h0)
  refine (HC.out _).mono ?_
  rintro e w1 ⟨vl, rfl, hv, hb⟩
  have p1 := prev_call hb
  have HV1 := Aside0.mk hv
  clear hb hv
  go_wp2_with fail
  refine (HG1.out _ _ _ (rowK HV1.out)).mono ?_
  rintro e w2 ⟨rfl, hb⟩
  have p2 := prev_call hb
  clear hb
  go_wp2_with fail
  refine (HG2.out _ _ _ (rowK HV1.out)).mono ?_
  rintro e w3 ⟨rfl, hb⟩
  have p3 := prev_call hb
  clear hb
  go_wp2_with fail
  refine (HG3.out _ _ _ (rowK HV1.out)).mono ?_
  rintro e w4 ⟨rfl, hb⟩
  have p4 := prev_call hb
  clear hb
  go_wp2_with fail
  refine (HG4.out _ _ _ (rowK HV1.out)).mono ?_
  rintro e w41 ⟨rfl, hb⟩
  have p41 := prev_call hb
  clear hb
  go_wp2_with fail
  refine (HG5.out _ _ _ (rowK HV1.out)).mono ?_
  rintro e w5 ⟨rfl, hb⟩
  have p5 := prev_call hb
  have s5 := siz w w5
  have hlt5 := held_lt (W := w5) (g := w.heap.size)
  have a5 : Apart w.heap.size (.row w5.heap.size) := apart_ne (by omega)
  have o5 : OwnB w.heap.size (.row w5.heap.size) := own_row (by omega)
  clear hb
  go_wp2_with (first
    | ((with_reducible refine gate_dst (N := 6) rfl ?_); refine new_event rfl (N := 6) rfl (ob := .cells Z42 42) (by go_simp; rfl) ?_; intro wb pb hhb)
    | (refine box_store rfl rfl 42 (.tmp 6) (.tmp 33) rfl held #[.int .i64 n1, .int .i64 n2, .int .i64 n3, .int .i64 n4, .string d5, .slice none 0 0] rfl rfl info42 (by rfl) (by rfl) ?_
       intro wc hxc hgc
       have pc := prev_row hgc
       have hhc : Holds wc w5.heap.size (.cells #[.int .i64 n1, .int .i64 n2, .int .i64 n3, .int .i64 n4, .string d5, .slice none 0 0] 42) := ⟨hxc⟩
       have nc : NoRow (84 :: k84.E) wb (.row w5.heap.size) := noRow_row held (by decide)
       clear hxc hgc))
  have sc := held_lt (W := wc) (g := w5.heap.size)
  refine (HG6.out _ _ _ (rowK HV1.out)).mono ?_
  rintro e w6 ⟨v6, rfl, hv6, hb⟩
  have p6 := prev_call hb
  have HT6 := Aside0.mk (Kd.R_lower hv6 (show w5.heap.size + 1 ≤ wc.heap.size by omega))
  obtain ⟨A6, c6, rfl⟩ := Kd.R_slice hv6
  clear hb hv6
  go_wp2_with fail
  go_loopw [8] (fun i wr => ∃ j : Nat, ∃ v : Value, j ≤ T.length ∧ i = .int .i64 (j : Int) ∧ Aside0 (Below w.heap.size w wr) ∧ Aside0 (wr.heap[w.heap.size]? = some (.cells Z42 42 (0, 0))) ∧ Aside0 (wr.heap[w5.heap.size]? = some (.cells #[.int .i64 n1, .int .i64 n2, .int .i64 n3, .int .i64 n4, .string d5, v] 42 (0, 0))) ∧ Aside0 (Kd.R k81 81 wr w5.heap.size (fun _ => True) v ((T.take j).map unrS)) ∧ Aside0 (Kd.R Kd.string 9 wr (w5.heap.size + 1) (fun _ => True) (.slice A6 T.length c6) T) ∧ Aside0 (Below w5.heap.size w5 wr)) (fun i _ => T.length - (intOf i).toNat)
  case atStart => exact ⟨0, _, Nat.zero_le _, rfl, ⟨bel _ _⟩, ⟨held⟩, ⟨held⟩, ⟨Kd.R_nil _ _ _ _ _⟩, HT6, ⟨(inferInstance : Bel w5.heap.size w5 w6).out (Nat.le_refl _)⟩⟩
  case round =>
    rename World => wo
    obtain ⟨j, v, hj, rfl, HB, h2, h3, HV, HT, HB6⟩ := hrel
    have pr := prev_above HB.out
    have H2 : Holds wo w.heap.size (.cells Z42 42) := ⟨h2.out⟩
    have H3 : Holds wo w5.heap.size (.cells #[.int .i64 n1, .int .i64 n2, .int .i64 n3, .int .i64 n4, .string d5, v] 42) := ⟨h3.out⟩
    have sr := HB6.out.size
    have sx := held_lt (W := wo) (g := w5.heap.size)
    by_cases hlt : j < T.length
    · obtain ⟨A7, c7, e7, hk7, hc7⟩ := Kd.R_reads HT.out
      obtain ⟨ad, e, x0⟩ := c_scalar hc7 j hlt
      obtain ⟨rfl, rfl⟩ : A6 = A7 ∧ c6 = c7 := by injection e7 with e1 _ e2; exact ⟨e1, e2⟩
      subst e
      have ht : T.take (j + 1) = T.take j ++ [T[j]] := List.take_succ_eq_append_getElem hlt
      have hlv : ((T.take j).map unrS).length = j := by rw [List.length_map, List.length_take]; omega
      have hxs := HSZ.out _ (List.getElem_mem hlt)
      generalize T[j] = x at x0 ht hxs
      have HTK := Aside0.mk ht
      obtain ⟨M, q, hM⟩ : ∃ M q, decS x = (M, q) := ⟨_, _, rfl⟩
      have hMl : M.length ≤ 1048576 := by have := dec_len x; rw [hM] at this; exact this
      have hdc := fun W => rdec_c W x hxs
      rw [hM] at hdc
      have HD := Aside0.mk hdc
      have HUX : Aside0 (unrS x = unrL M) := ⟨by unfold unrS; rw [hM]⟩
      clear ht e7 hk7 hc7 hdc hM hxs
      go_wp2_with fail
      clear x0
      refine (HD.out _).mono ?_
      rintro e w20 ⟨vm, rfl, hvm, hb⟩
      have p20 := prev_call hb
      have HM := Aside0.mk hvm
      clear hb hvm
      go_wp2_with fail
      refine (get_c (rowK HM.out) hMl 1).mono ?_
      rintro e w21 ⟨rfl, hb⟩
      have p21 := prev_call hb
      clear hb
      go_wp2_with fail
      refine (word_c (rowK HM.out) hMl 2).mono ?_
      rintro e w22 ⟨rfl, hb⟩
      have p22 := prev_call hb
      clear hb
      go_wp2_with fail
      refine (get_c (rowK HM.out) hMl 3).mono ?_
      rintro e w23 ⟨rfl, hb⟩
      have p23 := prev_call hb
      clear hb
      go_wp2_with fail
      refine (get_c (rowK HM.out) hMl 4).mono ?_
      rintro e w24 ⟨rfl, hb⟩
      have p24 := prev_call hb
      clear hb
      have s24 := siz wo w24
      have a24 : Apart w.heap.size (.row w24.heap.size) := apart_ne (by omega)
      have b24 : Apart w5.heap.size (.row w24.heap.size) := apart_ne (by omega)
      have o24 : OwnB w.heap.size (.row w24.heap.size) := own_row (by omega)
      have q24 : OwnB w5.heap.size (.row w24.heap.size) := own_row (by omega)
      have r24 : OwnB wo.heap.size (.row w24.heap.size) := own_row (by omega)
      have a25 : Apart w.heap.size (.above w24.heap.size) := apart_lt (by omega)
      have b25 : Apart w5.heap.size (.above w24.heap.size) := apart_lt (by omega)
      have o25 : OwnB w.heap.size (.above w24.heap.size) := own_above (by omega)
      have q25 : OwnB w5.heap.size (.above w24.heap.size) := own_above (by omega)
      have r25 : OwnB wo.heap.size (.above w24.heap.size) := own_above (by omega)
      go_wp2_with (first
        | ((with_reducible refine gate_dst (N := 11) rfl ?_); refine new_event rfl (N := 11) rfl (ob := .cells Z81 81) (by go_simp; rfl) ?_; intro w25 p25 h25)
        | (refine box_store rfl rfl 81 (.tmp 11) (.tmp 59) rfl held (A81 ⟨getN M 1, getT M 2, getN M 3 == 1, getN M 4, sum0⟩) rfl rfl (by rw [A81_size]; exact info81) (by rw [A81_size]; rfl) (A81_one _) ?_
           intro w26 hx26 hg26
           have p26 := prev_row hg26
           have h26 : Holds w26 w24.heap.size (.cells (A81 ⟨getN M 1, getT M 2, getN M 3 == 1, getN M 4, sum0⟩) 81) := ⟨hx26⟩
           have n26 : NoRow (84 :: k84.E) w25 (.row w24.heap.size) := noRow_row held (by decide)
           clear hx26 hg26))
      refine (word_c (rowK HM.out) hMl 5).mono ?_
      rintro e w27 ⟨rfl, hb⟩
      have p27 := prev_call hb
      clear hb
      generalize hgd : getT M 5 = d
      have HGD := Aside0.mk hgd
      clear hgd
      go_wp2_with fail
      go_loopw [13] (fun i wr => ∃ k : Nat, k ≤ 32 ∧ k ≤ d.size ∧ i = .int .i64 (k : Int) ∧ Aside0 (Below w24.heap.size w27 wr) ∧ Aside0 (wr.heap[w24.heap.size]? = some (.cells (A81 ⟨getN M 1, getT M 2, getN M 3 == 1, getN M 4, preS d k⟩) 81 (0, 0)))) (fun i _ => 32 - (intOf i).toNat)
      case atStart => exact ⟨0, by omega, Nat.zero_le _, rfl, ⟨Below.refl _ _⟩, ⟨by rw [preS_0]; exact held⟩⟩
      case round =>
        obtain ⟨k, hk, hkd, rfl, HBk, hbk⟩ := hrel
        have pk := prev_above HBk.out
        have Hk : Holds wr w24.heap.size (.cells (A81 ⟨getN M 1, getT M 2, getN M 3 == 1, getN M 4, preS d k⟩) 81) := ⟨hbk.out⟩
        by_cases hin : k < 32 ∧ k < d.size
        · obtain ⟨hk32, hks⟩ := hin
          obtain ⟨u0, hu0⟩ : ∃ u0, (A81 ⟨getN M 1, getT M 2, getN M 3 == 1, getN M 4, preS d k⟩)[4 + k]? = some u0 := ⟨_, Array.getElem?_eq_getElem (by rw [A81_size]; omega)⟩
          go_wp2_with fail
          go_roundw
          case rel => exact ⟨k + 1, by omega, by omega, by go_num, ⟨HBk.out.setCell (Nat.le_refl _) _⟩, ⟨by rw [← A81_put _ _ _ _ d k hks hk32 (4 + k) rfl]; exact held⟩⟩
          case measure => simp [intOf]; omega
        · have hend := preS_end d k (by omega)
          rw [hend, ← HGD.out] at Hk
          have hu : unrS x = ⟨getN M 1, getT M 2, getN M 3 == 1, getN M 4, sumOf (getT M 5)⟩ := HUX.out
          rw [← hu] at Hk
          have HTk := Aside0.mk (rowB HT.out (bel wo wr))
          have HVk := Aside0.mk (rowB HV.out (bel wo wr))
          have swk := siz wo wr
          clear hend hu hbk
          rcases (by omega : (k < 32 ∧ ¬ k < d.size) ∨ ¬ k < 32) with ⟨hk32, hks⟩ | hk32
          all_goals
            clear hin
            go_wp2_with (first
              | (refine box_load rfl 81 (.tmp 11) rfl held rfl hu81 rfl (by rw [A81_size]; exact info81) ?_)
              | ((with_reducible refine gate_builtin (b := .append) (xs := #[.tmp 79, .tmp 81]) rfl ?_); at_builtin; refine Kd.R_append k81 (w0 := w5) w5.heap.size rfl (.tmp 79) (.tmp 81) 40 81 (.agg Z81) 72 rfl Try.underlying40 infoB81 rfl (by decide) (by decide) v ((T.take j).map unrS) (unrS x) (L81 (unrS x)) (fun _ => True) (fun _ => False) ?aV ?aX (k81_mkM _ _ _ (unrS x)) (fun _ hk => hk.elim) (fun _ _ => trivial) ?aO ?aB ?aS ?aL ?_; (case aV => rfl); (case aX => first | rfl | (rw [World.size_alloc]; rfl) | (rw [World.size_setCell]; rfl)); (case aO => exact HVk.out); (case aB => exact HB6.out.trans ((inferInstance : Bel w5.heap.size wo _).out (by omega))); (case aS => omega); (case aL => rw [hlv]; omega)
                 intro v1 w9 h9 hb9 hg9 hat9
                 obtain ⟨A9, c9, rfl⟩ := Kd.R_slice h9
                 have p9 := prev_grown hg9
                 have ho := HVk.out
                 have a9 : Apart w5.heap.size (touchOf v.ownBlock) := apart_R ho held (by decide)
                 have b9 : Apart w.heap.size (touchOf v.ownBlock) := apart_R ho held (by decide)
                 have n9 : NoRow (9 :: Kd.string.E) wr (touchOf v.ownBlock) := noRow_R ho (by decide)
                 have o9 : OwnB w.heap.size (touchOf v.ownBlock) := ownB_R ho (by omega)
                 have e9 : ((T.take j).map unrS ++ [unrS x]).length = j + 1 := by rw [List.length_append, hlv]; rfl
                 have t9 : (T.take j).map unrS ++ [unrS x] = (T.take (j + 1)).map unrS := by rw [HTK.out, List.map_append]; rfl
                 rw [e9, t9] at h9
                 have H9 := Aside0.mk h9
                 clear e9 t9
                 have HB9 := Aside0.mk hb9
                 have n10 : NoRow (9 :: Kd.string.E) w9 (.row w5.heap.size) := noRow_row held (by decide)
                 have n11 : NoRow (81 :: k81.E) w9 (.row w5.heap.size) := noRow_row held (by decide)
                 have o11 : OwnB w.heap.size (.row w5.heap.size) := own_row (by omega)
                 have a11 : Apart w.heap.size (.row w5.heap.size) := apart_ne (by omega)
                 clear ho h9 hb9 hg9 hat9))
            go_roundw
            case rel => exact ⟨j + 1, .slice A9 (j + 1) c9, by omega, by go_num, ⟨bel _ _⟩, ⟨held⟩, ⟨held⟩, ⟨rowK H9.out⟩, ⟨rowK HTk.out⟩, ⟨HB9.out.setCell (Nat.le_refl _) _⟩⟩
            case measure => simp [intOf]; omega
    · have hv := HV.out
      rw [List.take_of_length_le (by omega)] at hv
      clear HV
      obtain ⟨Av, cv, rfl⟩ := Kd.R_slice hv
      generalize hn : (List.map unrS T).length = n at hv H3
      have HV' := Aside0.mk hv
      clear hv h3
      go_wp2_with (refine box_load rfl 42 (.tmp 6) rfl held rfl hu42 rfl info42 ?_)
      refine (HAN.out _ Av n cv hn.symm (Kd.R_reads' HV'.out).2.2).mono ?_
      rintro e w30 ⟨rfl, hb⟩
      have p30 := prev_call hb
      clear hb
      by_cases h0 : e2 = 0
      · subst h0
        by_cases ht : t.toList = s.toList
        · have hk : ok = true := HOK.out.2 ⟨rfl, ht⟩
          subst hk
          clear HOK
          have h3a : (t.toList == s.toList) = true := beq_iff_eq.mpr ht
          have h3b : (t.toList != s.toList) = false := bne_eq_false_iff_eq.mpr ht
          clear ht
          go_wp2_with (first
            | (refine box_load rfl 42 (.tmp 6) rfl held rfl hu42 rfl info42 ?_)
            | (refine box_store rfl rfl 42 (.tmp 2) (.tmp 97) rfl held #[.int .i64 n1, .int .i64 n2, .int .i64 n3, .int .i64 n4, .string d5, .slice Av n cv] rfl rfl info42 (by rfl) (by rfl) ?_
               intro wz hxz hgz
               have pz := prev_row hgz
               have nz : NoRow (81 :: k81.E) w30 (.row w.heap.size) := noRow_row held (by decide)
               have HZ := Aside0.mk hxz
               clear hxz hgz))
          refine bodyPost_ret (results_row_tmp rfl _ _ (.int .i64 0) HZ.out rfl rfl hu42 rfl info42) rfl ?_
          exact ⟨_, rfl, Kd.R_lower (rowK HV'.out) (by omega), bel _ _⟩
        · have hk : ok = false := by cases ok with | false => rfl | true => exact absurd (HOK.out.1 rfl).2 ht
          subst hk
          clear HOK
          have h3a : (t.toList == s.toList) = false := beq_eq_false_iff_ne.mpr ht
          have h3b : (t.toList != s.toList) = true := bne_iff_ne.mpr ht
          clear ht
          go_wp2_with (refine box_store rfl rfl 42 (.tmp 2) (.tmp 96) rfl held Z42 rfl rfl info42 (by rfl) (by rfl) ?_
                       intro wz hxz hgz
                       have pz := prev_row hgz
                       have HZ := Aside0.mk hxz
                       clear hxz hgz)
          refine bodyPost_ret (results_row_tmp rfl _ _ (.int .i64 5) HZ.out rfl rfl hu42 rfl info42) rfl ?_
          exact ⟨_, rfl, Kd.R_nil _ _ _ _ _, bel _ _⟩
      · have hk : ok = false := by cases ok with | false => rfl | true => exact absurd (HOK.out.1 rfl).1 h0
        subst hk
        clear HOK
        have h2a : (e2 == 0) = false := beq_eq_false_iff_ne.mpr h0
        have h2b : (e2 != 0) = true := bne_iff_ne.mpr h0
        clear h0
        go_wp2_with (refine box_store rfl rfl 42 (.tmp 2) (.tmp 96) rfl held Z42 rfl rfl info42 (by rfl) (by rfl) ?_
                     intro wz hxz hgz
                     have pz := prev_row hgz
                     have HZ := Aside0.mk hxz
                     clear hxz hgz)
        refine bodyPost_ret (results_row_tmp rfl _ _ (.int .i64 5) HZ.out rfl rfl hu42 rfl info42) rfl ?_
        exact ⟨_, rfl, Kd.R_nil _ _ _ _ _, bel _ _⟩
theorem rra_any (w : World) (s : ByteArray) (hs : s.size ≤ 65536) :
    Calls Try.prog 20 #[.string s] w fun e w' => ∃ v, e = .returned (.tuple #[ansW (raS s).1 v, .int .i64 (raS s).2]) ∧ Kd.R k81 81 w' w.heap.size (fun _ => True) v (raS s).1.f5 ∧ Below w.heap.size w w' := by
  have hl := dec_len s
  have hsz := texts_small s
  have hdc := fun W => rdec_c W s hs
  obtain ⟨L, e1, hL⟩ : ∃ L e1, decS s = (L, e1) := ⟨_, _, rfl⟩
  unfold raS
  by_cases hd : (decS s).2 = 0
  · rw [if_pos hd]
    rw [hL] at hd hl hsz hdc ⊢
    simp only at hd hl hsz hdc ⊢
    subst hd
    obtain ⟨t, e2, hq⟩ : ∃ t e2, ansS (ansOf L) = (t, e2) := ⟨_, _, rfl⟩
    have hT : (textsOf L 6).length ≤ 1048576 := Nat.le_trans (textsOf_len L 6) hl
    have H := rra_walk w s L (getN L 1) (getN L 2) (getN L 3) (getN L 4) (getT L 5) (textsOf L 6) hT hsz hdc
      (fun W base v h => get_c h hl 1) (fun W base v h => get_c h hl 2) (fun W base v h => get_c h hl 3) (fun W base v h => get_c h hl 4) (fun W base v h => word_c h hl 5) (fun W base v h => rtexts_c h hl 6) t e2
      (fun W A n c hn h => by
        subst hn
        have H := refans_any W (ansOf L) A c h
        rw [hq] at H
        exact H)
      (decide (e2 = 0 ∧ t.toList = s.toList)) decide_eq_true_iff
    rw [hq]
    by_cases hk : e2 = 0 ∧ t.toList = s.toList
    · rw [if_pos hk]
      rw [decide_eq_true hk] at H
      exact H
    · rw [if_neg hk]
      rw [decide_eq_false hk] at H
      exact H
  · have H := rra_no w s hs hd
    rw [if_neg hd]
    exact H
theorem raS_len (s : ByteArray) : (raS s).1.f5.length ≤ 1048576 := by
  have h1 := dec_len s
  have h2 := textsOf_len (decS s).1 6
  unfold raS
  split
  · split
    · show ((textsOf (decS s).1 6).map unrS).length ≤ _
      rw [List.length_map]
      omega
    · exact Nat.zero_le _
  · exact Nat.zero_le _
end Go.Proofs.Ytjaneipklpgnlaa.Q

namespace Go.Proofs.YtjaneipklpgnlaaK
open Go Go.RowKit Go.Proofs.YtjaneipklpgnlaaW.PrintWords Go.Proofs.YtjaneipklpgnlaaW.PrintLast
/-! A whole box is written, in a region that draws its order. -/
theorem box_skip {P : Program} {ops : Array Oper} {oi : Oper} {a : Act} {W : World} {K : Act → World → Prop} {Q : Exit → Act → World → Prop} (hw : Region.wanted oi (yielded ops a.tmps) = true) (hN : oi.dst = none) (ty : TypeId) (x y : Operand) (ho : oi.op = .store ty x y)
    {g : Nat} {t : TypeId} {old : Array Value} (hg : W.heap[g]? = some (.cells old t (0, 0))) (cells : Array Value) (hx : a.eval x = .pointer (some ⟨g, 0, none⟩)) (hy : a.eval y = .agg cells)
    (hi : (P.info? ty).map (·.size) = some cells.size) (hold : old.size = cells.size) (h1 : cells.toList.all (·.oneCell') = true)
    (h : ∀ w1, w1.heap[g]? = some (.cells cells t (0, 0)) → W.grownBy w1 (some g) → K a w1) : if Region.wanted oi (yielded ops a.tmps) = true then Oper.wp P oi a W K Q else K (a.put none undef) W := by
  rw [if_pos hw]
  refine wp_store_row ty x y ho g cells hx hy t old hg hi hold (by rw [← Array.all_toList]; exact h1) ?_
  rw [hN]
  exact h _ (setRow_heap W g old cells t (0, 0) hg) (grown_setRow W g cells)
end Go.Proofs.YtjaneipklpgnlaaK

namespace Go.Proofs.Ytjaneipklpgnlaa.Q
open Go Go.RowKit Go.Proofs.YtjaneipklpgnlaaK Go.Proofs.YtjaneipklpgnlaaW.PrintWords Go.Proofs.YtjaneipklpgnlaaW.PrintLast Go.Proofs.YtjaneipklpgnlaaW.PrintMore
set_option linter.unusedSimpArgs false
set_option linter.unusedVariables false
theorem works_any (w : World) : Calls Try.prog 15 #[] w fun e w' => e = .returned (.bool true) ∧ Below w.heap.size w w' :=
  aquiferlaw20_works.calls _ w tworks_fn
def cut9 (s : ByteArray) : ByteArray := s.extract 0 (mn (s.size : Int) 9000).toNat
theorem mn9_ok (s : ByteArray) : 0 ≤ mn (s.size : Int) 9000 ∧ mn (s.size : Int) 9000 ≤ (s.size : Int) := by unfold mn; split <;> omega
/-! ### An answer that comes in -/
def k42 : Kd S42 := Kd.iso (Kd.pair (Kd.int .i64) (Kd.pair (Kd.int .i64) (Kd.pair (Kd.int .i64) (Kd.pair (Kd.int .i64) (Kd.pair Kd.string (Kd.slice 81 k81)))))) (fun x : S42 => (x.f0, x.f1, x.f2, x.f3, x.f4, x.f5))
theorem k42_open {w : World} {x : S42} {cs : List Value} (h : k42.K w x cs) : ∃ A c, cs = [.int .i64 x.f0, .int .i64 x.f1, .int .i64 x.f2, .int .i64 x.f3, .string x.f4, .slice A x.f5.length c] ∧ x.f5.length ≤ c ∧ k81.C w A x.f5.length x.f5 := by
  obtain ⟨_, _, rfl, rfl, ⟨_, _, rfl, rfl, ⟨_, _, rfl, rfl, ⟨_, _, rfl, rfl, ⟨_, _, rfl, rfl, ⟨A, c, rfl, hl, hC⟩⟩⟩⟩⟩⟩ := h
  exact ⟨A, c, rfl, hl, hC⟩
def good81 (x : S81) : Prop := (Lit.int .i64 x.f0).wf = true ∧ x.f1.size ≤ 9223372036854775807 ∧ True ∧ (Lit.int .i64 x.f3).wf = true ∧ True
set_option maxRecDepth 100000 in
theorem opens81 : Opens Try.prog 81 k81 good81 := opens_struct Try.underlying81 (by kernel_rfl) (opensAt_cons rfl (by kernel_rfl) (opens_int Try.underlying3) (opensAt_cons rfl (by kernel_rfl) (opens_string Try.underlying9) (opensAt_cons rfl (by kernel_rfl) (opens_bool Try.underlying4) (opensAt_cons rfl (by kernel_rfl) (opens_int Try.underlying3) (opensAt_last rfl (by kernel_rfl) (opens_sum Try.underlying79 Try.underlying5 (by kernel_rfl) (by kernel_rfl))))))) (fun x : S81 => (x.f0, x.f1, x.f2, x.f3, x.f4)) (fun p => ⟨p.1, p.2.1, p.2.2.1, p.2.2.2.1, p.2.2.2.2⟩) (fun _ => rfl)
def good42 (x : S42) : Prop := (Lit.int .i64 x.f0).wf = true ∧ (Lit.int .i64 x.f1).wf = true ∧ (Lit.int .i64 x.f2).wf = true ∧ (Lit.int .i64 x.f3).wf = true ∧ x.f4.size ≤ 9223372036854775807 ∧ (x.f5.length ≤ 9223372036854775807 ∧ ∀ a ∈ x.f5, good81 a)
set_option maxRecDepth 100000 in
theorem opens42 : Opens Try.prog 42 k42 good42 := opens_struct Try.underlying42 (by kernel_rfl) (opensAt_cons rfl (by kernel_rfl) (opens_int Try.underlying3) (opensAt_cons rfl (by kernel_rfl) (opens_int Try.underlying3) (opensAt_cons rfl (by kernel_rfl) (opens_int Try.underlying3) (opensAt_cons rfl (by kernel_rfl) (opens_int Try.underlying3) (opensAt_cons rfl (by kernel_rfl) (opens_string Try.underlying9) (opensAt_last rfl (by kernel_rfl) (opens_slice (e := 81) Try.underlying40 (by kernel_rfl) opens81))))))) (fun x : S42 => (x.f0, x.f1, x.f2, x.f3, x.f4, x.f5)) (fun p => ⟨p.1, p.2.1, p.2.2.1, p.2.2.2.1, p.2.2.2.2.1, p.2.2.2.2.2⟩) (fun _ => rfl)
theorem cutA_len (a : S42) : (cutA a).f5.length ≤ 1048576 := by
  unfold cutA
  simp only [List.length_map, List.length_take]
  omega
end Go.Proofs.Ytjaneipklpgnlaa.Q

namespace Go.Proofs.Ytjaneipklpgnlaa.Q
open Go Go.RowKit Go.Proofs.YtjaneipklpgnlaaK Go.Proofs.YtjaneipklpgnlaaW.PrintWords Go.Proofs.YtjaneipklpgnlaaW.PrintLast Go.Proofs.YtjaneipklpgnlaaW.PrintMore
attribute [local go_sem ↓] Go.Proofs.YtjaneipklpgnlaaK.isSome_setCell
attribute [local go_sem] min2_mn min_two cell_held frozen_held
set_option linter.unusedSimpArgs false
set_option linter.unusedVariables false
theorem cut9_len (s : ByteArray) : (cut9 s).size ≤ 65536 := by
  unfold cut9
  rw [ByteArray.size_extract]
  unfold mn
  split <;> omega
def answ.T1 : Bool × List (List Nat × List Nat) := (true, [([], []), ([0], [0]), ([], []), ([], []), ([3], [3]), ([4], [4]), ([2, 5], [2, 5]), ([1, 1, 0, 1], [1]), ([6, 7, 0, 1, 2, 3, 4, 5, 6, 7], [2, 3, 6])])
def answ.B1 : List Nat := [0, 1, 0, 0, 8, 24, 60, 3, 255]
theorem answ.tab1 : rtab .any (opsOf Try.f5 1) = answ.T1 := by kernel_rfl
theorem answ.bits1 : waitsOk answ.T1.2 answ.B1 = true := by kernel_rfl
def answ.T6 : Bool × List (List Nat × List Nat) := (true, [([], []), ([0], [0]), ([], []), ([2, 1], [2]), ([1, 3], [1, 3]), ([4, 3], [4]), ([5], [5]), ([5], [5]), ([6, 7, 5], [5, 6, 7]), ([5, 8], [5, 8]), ([9, 5], [9]), ([10], [10]), ([10], [10]), ([11, 12, 10], [10, 11, 12]), ([10, 13], [10, 13]), ([14, 10], [14]), ([15], [15]), ([15], [15]), ([16, 17, 15, 15], [15, 16, 17]), ([15, 18], [15, 18]), ([19, 18], [19]), ([20], [20]), ([20], [20]), ([21, 22, 20], [20, 21, 22]), ([20, 23], [20, 23]), ([24, 20], [24]), ([25, 25], [25]), ([25, 26], [25, 26]), ([27, 26, 0, 1, 2, 3, 4, 5, 6, 7, 8, 9, 10, 11, 12, 13, 14, 15, 16, 17, 18, 19, 20, 21, 22, 23, 24, 25, 26, 27], [27])])
def answ.B6 : List Nat := [0, 1, 0, 7, 15, 31, 63, 63, 255, 511, 1023, 2047, 2047, 8191, 16383, 32767, 65535, 65535, 262143, 524287, 1048575, 2097151, 2097151, 8388607, 16777215, 33554431, 67108863, 134217727, 268435455]
theorem answ.tab6 : rtab .any (opsOf Try.f5 6) = answ.T6 := by kernel_rfl
theorem answ.bits6 : waitsOk answ.T6.2 answ.B6 = true := by kernel_rfl
set_option maxRecDepth 100000 in
set_option maxHeartbeats 4000000 in
theorem answers_walk (w : World) (a b z : S42) (A : Option Addr) (c : Nat) (s s1 t : ByteArray) (f h r : Int) (hs1 : cut9 s = s1) (hc : k81.C w A a.f5.length a.f5)
    (hfa : ∀ W A c, k81.C W A a.f5.length a.f5 → Calls Try.prog 16 #[ansV a A c] W fun e w' => ∃ v, e = .returned (ansW b v) ∧ Kd.R k81 81 w' W.heap.size (fun _ => True) v b.f5 ∧ Below W.heap.size W w')
    (han : ∀ W A c, k81.C W A b.f5.length b.f5 → Calls Try.prog 17 #[ansV b A c] W fun r w' => r = .returned (.tuple #[.string t, .int .i64 f]) ∧ Below W.heap.size W w')
    (hru : ∀ W A c, k81.C W A b.f5.length b.f5 → Calls Try.prog 18 #[ansV b A c] W fun r w' => r = .returned (.tuple #[.string t, .int .i64 f]) ∧ Below W.heap.size W w')
    (hra : ∀ W, Calls Try.prog 19 #[.string s1] W fun r w' => ∃ v, r = .returned (.tuple #[ansW z v, .int .i64 h]) ∧ Kd.R k81 81 w' W.heap.size (fun _ => True) v z.f5 ∧ Below W.heap.size W w')
    (hrr : ∀ W, Calls Try.prog 20 #[.string s1] W fun r w' => ∃ v, r = .returned (.tuple #[ansW z v, .int .i64 h]) ∧ Kd.R k81 81 w' W.heap.size (fun _ => True) v z.f5 ∧ Below W.heap.size W w')
    (hk : ∀ W A c, k81.C W A b.f5.length b.f5 → Calls Try.prog 21 #[ansV b A c] W fun e w' => e = .returned (.int .i64 r) ∧ Below W.heap.size W w')
    (hk2 : ∀ W A c, k81.C W A b.f5.length b.f5 → Calls Try.prog 22 #[ansV b A c] W fun e w' => e = .returned (.int .i64 r) ∧ Below W.heap.size W w')
    (hsm : ∀ W A B c d, k81.C W A z.f5.length z.f5 → k81.C W B z.f5.length z.f5 → Calls Try.prog 23 #[ansV z A c, ansV z B d] W fun r w' => r = .returned (.bool true) ∧ Below W.heap.size W w') :
    Calls Try.prog 5 #[ansV a A c, .string s] w fun e w' => e = .returned (.bool true) ∧ Below w.heap.size w w' := by
  have hu42 := Try.underlying42
  obtain ⟨m1, m2⟩ := mn9_ok s
  have HC := Aside0.mk hc
  have HFA := Aside0.mk hfa
  have HAN := Aside0.mk han
  have HRU := Aside0.mk hru
  have HRA := Aside0.mk hra
  have HRR := Aside0.mk hrr
  have HK := Aside0.mk hk
  have HK2 := Aside0.mk hk2
  have HSM := Aside0.mk hsm
  have HS1 := Aside0.mk hs1
  clear hc hfa han hru hra hrr hk hk2 hsm hs1
  go_enter Try.func5, Try.ntmps5
  go_wp2_with fail
  refine start_ (n := 9) (S := fun w' => w'.heap[w.heap.size]? = some (.cells #[.int .i64 a.f0, .int .i64 a.f1, .int .i64 a.f2, .int .i64 a.f3, .string a.f4, .slice A a.f5.length c] 42 (0, 0))) (ds := [7]) #[false, false, false, false, false, false, false, false, false] (by kernel_rfl) rfl rfl held (fun hHeld => ?_); refine with_tabW answ.tab1 answ.bits1 (fun HT_ HW_ => ?_)
  refine pure_ (i := 2) (N := some 15) (v := ?_) (a' := ?_) #[false, false, true, false, false, false, false, false, false] rfl rfl (any_of HT_.out (by kernel_rfl)) (fun _ _ _ h => h) (Or.inl ⟨by rfl, ?_⟩) ?_ ?_
  rotate_left
  · intro w'
    go_simp
    with_reducible rfl
  rotate_left
  · simp only [Act.put, List.setIfInBounds_toArray, List.set_cons_zero, List.set_cons_succ, i64_w, i32_w]
    rfl
  refine pure_ (i := 3) (N := some 16) (v := ?_) (a' := ?_) #[false, false, true, true, false, false, false, false, false] rfl rfl (any_of HT_.out (by kernel_rfl)) (fun _ _ _ h => h) (Or.inl ⟨by rfl, ?_⟩) ?_ ?_
  rotate_left
  · intro w'
    go_simp
    with_reducible rfl
  rotate_left
  · simp only [Act.put, List.setIfInBounds_toArray, List.set_cons_zero, List.set_cons_succ, i64_w, i32_w]
    rfl
  refine pure_ (i := 4) (N := some 17) (v := ?_) (a' := ?_) #[false, false, true, true, true, false, false, false, false] rfl rfl (any_of HT_.out (by kernel_rfl)) (fun _ _ _ h => h) (Or.inl ⟨by rfl, ?_⟩) ?_ ?_
  rotate_left
  · intro w'
    go_simp
    with_reducible rfl
  rotate_left
  · simp only [Act.put, List.setIfInBounds_toArray, List.set_cons_zero, List.set_cons_succ, i64_w, i32_w]
    rfl
  refine pure_ (i := 5) (N := some 18) (v := ?_) (a' := ?_) #[false, false, true, true, true, true, false, false, false] rfl rfl (any_of HT_.out (by kernel_rfl)) (fun _ _ _ h => h) (Or.inl ⟨by rfl, ?_⟩) ?_ ?_
  rotate_left
  · intro w'
    go_simp
    with_reducible rfl
  rotate_left
  · simp only [Act.put, List.setIfInBounds_toArray, List.set_cons_zero, List.set_cons_succ, i64_w, i32_w]
    rfl
  refine pure_ (i := 6) (N := some 19) (v := ?_) (a' := ?_) #[false, false, true, true, true, true, true, false, false] rfl rfl (any_of HT_.out (by kernel_rfl)) (fun _ _ _ h => h) (Or.inl ⟨by rfl, ?_⟩) ?_ ?_
  rotate_left
  · intro w'
    go_simp
    with_reducible rfl
  rotate_left
  · simp only [Act.put, List.setIfInBounds_toArray, List.set_cons_zero, List.set_cons_succ, i64_w, i32_w]
    rfl
  refine take_ (i := 0) (N := some 13) (v := ?_) (a' := ?_) #[true, false, true, true, true, true, true, false, false] rfl rfl (take_ofW HT_.out HW_.out (by kernel_rfl)) (fun _ _ _ h => h) (Or.inl ⟨by rfl, ?_⟩) hHeld ?_ ?_
  rotate_left
  · rintro w' s0
    have i0 : Holds w' w.heap.size (.cells #[.int .i64 a.f0, .int .i64 a.f1, .int .i64 a.f2, .int .i64 a.f3, .string a.f4, .slice A a.f5.length c] 42) := ⟨s0⟩
    go_simp
    with_reducible rfl
  rotate_left
  · simp only [Act.put, List.setIfInBounds_toArray, List.set_cons_zero, List.set_cons_succ, i64_w, i32_w]
    rfl
  refine one_ (i := 1) (N := some 14) #[true, true, true, true, true, true, true, false, false] rfl rfl (one_of HT_.out (by kernel_rfl)) (by decide) (fun K hK => ?_)
  refine goes_ Try.func16 (by kernel_rfl) rfl #[ansV a A c] (by rfl) rfl rfl (by (try simp only [List.map_toArray, List.map_cons, List.map_nil]); first | done | rfl) ?_
  refine (HFA.out _ A c ?hC).mono ?_
  case hC => exact Kd.C_below HC.out (bel _ _)
  rintro e2 w2 ⟨v, rfl, hv, hb⟩
  have p2 := prev_call hb
  have hv := Kd.R_lower hv (siz w _)
  obtain ⟨Ab, cb, rfl⟩ := Kd.R_slice hv
  have HV := Aside0.mk hv
  clear hv hb
  refine ⟨_, rfl, ?_⟩
  refine hK.out _ _ held (fun hHeld => ?_)
  clear hK K
  refine norm_ (a' := ?_) ?_ ?_
  rotate_left
  · show Act.put _ (some 14) _ = _
    simp only [Act.put, List.setIfInBounds_toArray, List.set_cons_zero, List.set_cons_succ, i64_w, i32_w]
    rfl
  refine last_ (i := 7) (N := none) #[true, true, true, true, true, true, true, true, false] rfl rfl (one_of HT_.out (by kernel_rfl)) (by decide) (fun K hK => ?_)
  refine box_skip (by rfl) rfl 42 (.tmp 2) (.tmp 14) rfl held #[.int .i64 b.f0, .int .i64 b.f1, .int .i64 b.f2, .int .i64 b.f3, .string b.f4, .slice Ab b.f5.length cb] rfl rfl info42 (by rfl) (by rfl) ?_
  intro w3 hx3 hg3
  have p3 := prev_row hg3
  have h3 : Holds w3 w.heap.size (.cells #[.int .i64 b.f0, .int .i64 b.f1, .int .i64 b.f2, .int .i64 b.f3, .string b.f4, .slice Ab b.f5.length cb] 42) := ⟨hx3⟩
  have n3 : NoRow (81 :: k81.E) w2 (.row w.heap.size) := noRow_row held (by decide)
  clear hx3 hg3
  refine hK.out _ _ ?_
  clear hK K
  refine pure_ (i := 8) (N := some 1) (v := ?_) (a' := ?_) #[true, true, true, true, true, true, true, true, true] rfl rfl (any_of HT_.out (by kernel_rfl)) (fun _ _ _ h => h) (Or.inl ⟨by rfl, ?_⟩) ?_ ?_
  rotate_left
  · intro w'
    go_simp
    with_reducible rfl
  rotate_left
  · simp only [Act.put, List.setIfInBounds_toArray, List.set_cons_zero, List.set_cons_succ, i64_w, i32_w]
    rfl
  refine done_ (done_of HT_.out (by kernel_rfl)) ?_
  have s3 := held_lt (W := w3) (g := w.heap.size)
  have HV3 : Aside0 (Kd.R k81 81 w3 w.heap.size (fun _ => True) (.slice Ab b.f5.length cb) b.f5) := Aside0.mk (rowK HV.out)
  have hs1 := HS1.out
  unfold cut9 at hs1
  rw [hs1]
  clear hs1 HS1
  go_wp2_with fail
  refine (HAN.out _ Ab cb ?hC).mono ?_
  case hC => exact (Kd.R_reads' (rowB HV3.out (bel w3 _))).2.2
  rintro r4 w4 ⟨rfl, hb⟩
  have p4 := prev_call hb
  clear hb
  go_wp2_with fail
  refine (HRU.out _ Ab cb ?hC).mono ?_
  case hC => exact (Kd.R_reads' (rowB HV3.out (bel w3 _))).2.2
  rintro r5 w5 ⟨rfl, hb⟩
  have p5 := prev_call hb
  clear hb
  go_wp2_with fail
  refine (HRA.out _).mono ?_
  rintro r6 w6 ⟨v6, rfl, hv, hb⟩
  have p6 := prev_call hb
  obtain ⟨Ac, cc, rfl⟩ := Kd.R_slice hv
  have HZ1 := Aside0.mk hv
  have s6 := held_lt (W := w6) (g := w.heap.size)
  have a6 : Apart w.heap.size (.row w6.heap.size) := apart_ne (by omega)
  have o6 : OwnB w.heap.size (.row w6.heap.size) := own_row (by omega)
  have q6 : OwnB w3.heap.size (.row w6.heap.size) := own_row (siz w3 w6)
  clear hb hv
  go_wp2_with (first
    | ((with_reducible refine gate_dst (N := 9) rfl ?_); refine new_event rfl (N := 9) rfl (ob := .cells Z42 42) (by go_simp; rfl) ?_; intro w7 p7 h7)
    | (refine box_store rfl rfl 42 (.tmp 9) (.tmp 33) rfl held #[.int .i64 z.f0, .int .i64 z.f1, .int .i64 z.f2, .int .i64 z.f3, .string z.f4, .slice Ac z.f5.length cc] rfl rfl info42 (by rfl) (by rfl) ?_
       intro w8 hx hg
       have p8 := prev_row hg
       have h8 : Holds w8 w6.heap.size (.cells #[.int .i64 z.f0, .int .i64 z.f1, .int .i64 z.f2, .int .i64 z.f3, .string z.f4, .slice Ac z.f5.length cc] 42) := ⟨hx⟩
       clear hx hg))
  refine (HRR.out _).mono ?_
  rintro r9 w9 ⟨v9, rfl, hv, hb⟩
  have p9 := prev_call hb
  obtain ⟨Ad, cd, rfl⟩ := Kd.R_slice hv
  have HZ2 := Aside0.mk hv
  have s9 := held_lt (W := w9) (g := w.heap.size)
  have a9 : Apart w.heap.size (.row w9.heap.size) := apart_ne (by omega)
  have o9 : OwnB w.heap.size (.row w9.heap.size) := own_row (by omega)
  have q9 : OwnB w3.heap.size (.row w9.heap.size) := own_row (siz w3 w9)
  have z9 := held_lt (W := w9) (g := w6.heap.size)
  have b9 : Apart w6.heap.size (.row w9.heap.size) := apart_ne (by omega)
  have x9 : OwnB w6.heap.size (.row w9.heap.size) := own_row (by omega)
  clear hb hv
  go_wp2_with (first
    | ((with_reducible refine gate_dst (N := 11) rfl ?_); refine new_event rfl (N := 11) rfl (ob := .cells Z42 42) (by go_simp; rfl) ?_; intro w10 p10 h10)
    | (refine box_store rfl rfl 42 (.tmp 11) (.tmp 38) rfl held #[.int .i64 z.f0, .int .i64 z.f1, .int .i64 z.f2, .int .i64 z.f3, .string z.f4, .slice Ad z.f5.length cd] rfl rfl info42 (by rfl) (by rfl) ?_
       intro w11 hx hg
       have p11 := prev_row hg
       have h11 : Holds w11 w9.heap.size (.cells #[.int .i64 z.f0, .int .i64 z.f1, .int .i64 z.f2, .int .i64 z.f3, .string z.f4, .slice Ad z.f5.length cd] 42) := ⟨hx⟩
       clear hx hg))
  refine start_ (n := 29) (S := fun w' => w'.heap[w.heap.size]? = some (.cells #[.int .i64 b.f0, .int .i64 b.f1, .int .i64 b.f2, .int .i64 b.f3, .string b.f4, .slice Ab b.f5.length cb] 42 (0, 0)) ∧ w'.heap[w6.heap.size]? = some (.cells #[.int .i64 z.f0, .int .i64 z.f1, .int .i64 z.f2, .int .i64 z.f3, .string z.f4, .slice Ac z.f5.length cc] 42 (0, 0)) ∧ w'.heap[w9.heap.size]? = some (.cells #[.int .i64 z.f0, .int .i64 z.f1, .int .i64 z.f2, .int .i64 z.f3, .string z.f4, .slice Ad z.f5.length cd] 42 (0, 0))) (ds := []) #[false, false, false, false, false, false, false, false, false, false, false, false, false, false, false, false, false, false, false, false, false, false, false, false, false, false, false, false, false] (by kernel_rfl) rfl rfl ⟨held, held, held⟩ (fun hHeld => ?_); refine with_tabW answ.tab6 answ.bits6 (fun HT_ HW_ => ?_)
  refine take_ (i := 0) (N := some 40) (v := ?_) (a' := ?_) #[true, false, false, false, false, false, false, false, false, false, false, false, false, false, false, false, false, false, false, false, false, false, false, false, false, false, false, false, false] rfl rfl (take_ofW HT_.out HW_.out (by kernel_rfl)) (fun _ _ _ h => h) (Or.inl ⟨by rfl, ?_⟩) hHeld ?_ ?_
  rotate_left
  · rintro w' ⟨s0, s1, s2⟩
    have i0 : Holds w' w.heap.size (.cells #[.int .i64 b.f0, .int .i64 b.f1, .int .i64 b.f2, .int .i64 b.f3, .string b.f4, .slice Ab b.f5.length cb] 42) := ⟨s0⟩
    have i1 : Holds w' w6.heap.size (.cells #[.int .i64 z.f0, .int .i64 z.f1, .int .i64 z.f2, .int .i64 z.f3, .string z.f4, .slice Ac z.f5.length cc] 42) := ⟨s1⟩
    have i2 : Holds w' w9.heap.size (.cells #[.int .i64 z.f0, .int .i64 z.f1, .int .i64 z.f2, .int .i64 z.f3, .string z.f4, .slice Ad z.f5.length cd] 42) := ⟨s2⟩
    go_simp
    with_reducible rfl
  rotate_left
  · simp only [Act.put, List.setIfInBounds_toArray, List.set_cons_zero, List.set_cons_succ, i64_w, i32_w]
    rfl
  refine take_ (i := 2) (N := some 42) (v := ?_) (a' := ?_) #[true, false, true, false, false, false, false, false, false, false, false, false, false, false, false, false, false, false, false, false, false, false, false, false, false, false, false, false, false] rfl rfl (take_ofW HT_.out HW_.out (by kernel_rfl)) (fun _ _ _ h => h) (Or.inl ⟨by rfl, ?_⟩) hHeld ?_ ?_
  rotate_left
  · rintro w' ⟨s0, s1, s2⟩
    have i0 : Holds w' w.heap.size (.cells #[.int .i64 b.f0, .int .i64 b.f1, .int .i64 b.f2, .int .i64 b.f3, .string b.f4, .slice Ab b.f5.length cb] 42) := ⟨s0⟩
    have i1 : Holds w' w6.heap.size (.cells #[.int .i64 z.f0, .int .i64 z.f1, .int .i64 z.f2, .int .i64 z.f3, .string z.f4, .slice Ac z.f5.length cc] 42) := ⟨s1⟩
    have i2 : Holds w' w9.heap.size (.cells #[.int .i64 z.f0, .int .i64 z.f1, .int .i64 z.f2, .int .i64 z.f3, .string z.f4, .slice Ad z.f5.length cd] 42) := ⟨s2⟩
    go_simp
    with_reducible rfl
  rotate_left
  · simp only [Act.put, List.setIfInBounds_toArray, List.set_cons_zero, List.set_cons_succ, i64_w, i32_w]
    rfl
  refine one_ (i := 1) (N := some 41) #[true, true, true, false, false, false, false, false, false, false, false, false, false, false, false, false, false, false, false, false, false, false, false, false, false, false, false, false, false] rfl rfl (one_of HT_.out (by kernel_rfl)) (by decide) (fun K hK => ?_)
  refine goes_ Try.func21 (by kernel_rfl) rfl #[ansV b Ab cb] (by rfl) rfl rfl (by (try simp only [List.map_toArray, List.map_cons, List.map_nil]); first | done | rfl) ?_
  refine (HK.out _ Ab cb ?hC).mono ?_
  case hC => exact (Kd.R_reads' (rowB HV3.out (bel w3 _))).2.2
  rintro r21 w21 ⟨rfl, hb⟩
  have p21 := prev_call hb
  clear hb
  refine ⟨_, rfl, ?_⟩
  refine hK.out _ _ ⟨held, held, held⟩ (fun hHeld => ?_)
  clear hK K
  refine norm_ (a' := ?_) ?_ ?_
  rotate_left
  · show Act.put _ (some 41) _ = _
    simp only [Act.put, List.setIfInBounds_toArray, List.set_cons_zero, List.set_cons_succ, i64_w, i32_w]
    rfl
  refine one_ (i := 3) (N := some 43) #[true, true, true, true, false, false, false, false, false, false, false, false, false, false, false, false, false, false, false, false, false, false, false, false, false, false, false, false, false] rfl rfl (one_of HT_.out (by kernel_rfl)) (by decide) (fun K hK => ?_)
  refine goes_ Try.func22 (by kernel_rfl) rfl #[ansV b Ab cb] (by rfl) rfl rfl (by (try simp only [List.map_toArray, List.map_cons, List.map_nil]); first | done | rfl) ?_
  refine (HK2.out _ Ab cb ?hC).mono ?_
  case hC => exact (Kd.R_reads' (rowB HV3.out (bel w3 _))).2.2
  rintro r22 w22 ⟨rfl, hb⟩
  have p22 := prev_call hb
  clear hb
  refine ⟨_, rfl, ?_⟩
  refine hK.out _ _ ⟨held, held, held⟩ (fun hHeld => ?_)
  clear hK K
  refine norm_ (a' := ?_) ?_ ?_
  rotate_left
  · show Act.put _ (some 43) _ = _
    simp only [Act.put, List.setIfInBounds_toArray, List.set_cons_zero, List.set_cons_succ, i64_w, i32_w]
    rfl
  refine pure_ (i := 4) (N := some 44) (v := ?_) (a' := ?_) #[true, true, true, true, true, false, false, false, false, false, false, false, false, false, false, false, false, false, false, false, false, false, false, false, false, false, false, false, false] rfl rfl (any_of HT_.out (by kernel_rfl)) (fun _ _ _ h => h) (Or.inl ⟨by rfl, ?_⟩) ?_ ?_
  rotate_left
  · intro w'
    go_simp
    with_reducible rfl
  rotate_left
  · simp only [Act.put, List.setIfInBounds_toArray, List.set_cons_zero, List.set_cons_succ, i64_w, i32_w]
    rfl
  refine pure_ (i := 5) (N := some 45) (v := ?_) (a' := ?_) #[true, true, true, true, true, true, false, false, false, false, false, false, false, false, false, false, false, false, false, false, false, false, false, false, false, false, false, false, false] rfl rfl (any_of HT_.out (by kernel_rfl)) (fun _ _ _ h => h) (Or.inl ⟨by rfl, ?_⟩) ?_ ?_
  rotate_left
  · intro w'
    go_simp
    with_reducible rfl
  rotate_left
  · simp only [Act.put, List.setIfInBounds_toArray, List.set_cons_zero, List.set_cons_succ, i64_w, i32_w]
    rfl
  refine pure_ (i := 6) (N := some 46) (v := ?_) (a' := ?_) #[true, true, true, true, true, true, true, false, false, false, false, false, false, false, false, false, false, false, false, false, false, false, false, false, false, false, false, false, false] rfl rfl (any_of HT_.out (by kernel_rfl)) (fun _ _ _ h => h) (Or.inl ⟨by rfl, ?_⟩) ?_ ?_
  rotate_left
  · intro w'
    go_simp
    with_reducible rfl
  rotate_left
  · simp only [Act.put, List.setIfInBounds_toArray, List.set_cons_zero, List.set_cons_succ, i64_w, i32_w]
    rfl
  refine pure_ (i := 7) (N := some 47) (v := ?_) (a' := ?_) #[true, true, true, true, true, true, true, true, false, false, false, false, false, false, false, false, false, false, false, false, false, false, false, false, false, false, false, false, false] rfl rfl (any_of HT_.out (by kernel_rfl)) (fun _ _ _ h => h) (Or.inl ⟨by rfl, ?_⟩) ?_ ?_
  rotate_left
  · intro w'
    go_simp
    with_reducible rfl
  rotate_left
  · simp only [Act.put, List.setIfInBounds_toArray, List.set_cons_zero, List.set_cons_succ, i64_w, i32_w]
    rfl
  refine pure_ (i := 8) (N := some 48) (v := ?_) (a' := ?_) #[true, true, true, true, true, true, true, true, true, false, false, false, false, false, false, false, false, false, false, false, false, false, false, false, false, false, false, false, false] rfl rfl (any_of HT_.out (by kernel_rfl)) (fun _ _ _ h => h) (Or.inl ⟨by rfl, ?_⟩) ?_ ?_
  rotate_left
  · intro w'
    go_simp
    with_reducible rfl
  rotate_left
  · simp only [Act.put, List.setIfInBounds_toArray, List.set_cons_zero, List.set_cons_succ, i64_w, i32_w]
    rfl
  refine pure_ (i := 9) (N := some 49) (v := ?_) (a' := ?_) #[true, true, true, true, true, true, true, true, true, true, false, false, false, false, false, false, false, false, false, false, false, false, false, false, false, false, false, false, false] rfl rfl (any_of HT_.out (by kernel_rfl)) (fun _ _ _ h => h) (Or.inl ⟨by rfl, ?_⟩) ?_ ?_
  rotate_left
  · intro w'
    go_simp
    with_reducible rfl
  rotate_left
  · simp only [Act.put, List.setIfInBounds_toArray, List.set_cons_zero, List.set_cons_succ, i64_w, i32_w]
    rfl
  refine pure_ (i := 10) (N := some 50) (v := ?_) (a' := ?_) #[true, true, true, true, true, true, true, true, true, true, true, false, false, false, false, false, false, false, false, false, false, false, false, false, false, false, false, false, false] rfl rfl (any_of HT_.out (by kernel_rfl)) (fun _ _ _ h => h) (Or.inl ⟨by rfl, ?_⟩) ?_ ?_
  rotate_left
  · intro w'
    go_simp
    with_reducible rfl
  rotate_left
  · simp only [Act.put, List.setIfInBounds_toArray, List.set_cons_zero, List.set_cons_succ, i64_w, i32_w]
    rfl
  refine pure_ (i := 11) (N := some 51) (v := ?_) (a' := ?_) #[true, true, true, true, true, true, true, true, true, true, true, true, false, false, false, false, false, false, false, false, false, false, false, false, false, false, false, false, false] rfl rfl (any_of HT_.out (by kernel_rfl)) (fun _ _ _ h => h) (Or.inl ⟨by rfl, ?_⟩) ?_ ?_
  rotate_left
  · intro w'
    go_simp
    with_reducible rfl
  rotate_left
  · simp only [Act.put, List.setIfInBounds_toArray, List.set_cons_zero, List.set_cons_succ, i64_w, i32_w]
    rfl
  refine pure_ (i := 12) (N := some 52) (v := ?_) (a' := ?_) #[true, true, true, true, true, true, true, true, true, true, true, true, true, false, false, false, false, false, false, false, false, false, false, false, false, false, false, false, false] rfl rfl (any_of HT_.out (by kernel_rfl)) (fun _ _ _ h => h) (Or.inl ⟨by rfl, ?_⟩) ?_ ?_
  rotate_left
  · intro w'
    go_simp
    with_reducible rfl
  rotate_left
  · simp only [Act.put, List.setIfInBounds_toArray, List.set_cons_zero, List.set_cons_succ, i64_w, i32_w]
    rfl
  refine pure_ (i := 13) (N := some 53) (v := ?_) (a' := ?_) #[true, true, true, true, true, true, true, true, true, true, true, true, true, true, false, false, false, false, false, false, false, false, false, false, false, false, false, false, false] rfl rfl (any_of HT_.out (by kernel_rfl)) (fun _ _ _ h => h) (Or.inl ⟨by rfl, ?_⟩) ?_ ?_
  rotate_left
  · intro w'
    go_simp
    with_reducible rfl
  rotate_left
  · simp only [Act.put, List.setIfInBounds_toArray, List.set_cons_zero, List.set_cons_succ, i64_w, i32_w]
    rfl
  refine pure_ (i := 14) (N := some 54) (v := ?_) (a' := ?_) #[true, true, true, true, true, true, true, true, true, true, true, true, true, true, true, false, false, false, false, false, false, false, false, false, false, false, false, false, false] rfl rfl (any_of HT_.out (by kernel_rfl)) (fun _ _ _ h => h) (Or.inl ⟨by rfl, ?_⟩) ?_ ?_
  rotate_left
  · intro w'
    go_simp
    with_reducible rfl
  rotate_left
  · simp only [Act.put, List.setIfInBounds_toArray, List.set_cons_zero, List.set_cons_succ, i64_w, i32_w]
    rfl
  refine pure_ (i := 15) (N := some 55) (v := ?_) (a' := ?_) #[true, true, true, true, true, true, true, true, true, true, true, true, true, true, true, true, false, false, false, false, false, false, false, false, false, false, false, false, false] rfl rfl (any_of HT_.out (by kernel_rfl)) (fun _ _ _ h => h) (Or.inl ⟨by rfl, ?_⟩) ?_ ?_
  rotate_left
  · intro w'
    go_simp
    with_reducible rfl
  rotate_left
  · simp only [Act.put, List.setIfInBounds_toArray, List.set_cons_zero, List.set_cons_succ, i64_w, i32_w]
    rfl
  refine take_ (i := 16) (N := some 56) (v := ?_) (a' := ?_) #[true, true, true, true, true, true, true, true, true, true, true, true, true, true, true, true, true, false, false, false, false, false, false, false, false, false, false, false, false] rfl rfl (take_ofW HT_.out HW_.out (by kernel_rfl)) (fun _ _ _ h => h) (Or.inl ⟨by rfl, ?_⟩) hHeld ?_ ?_
  rotate_left
  · rintro w' ⟨s0, s1, s2⟩
    have i0 : Holds w' w.heap.size (.cells #[.int .i64 b.f0, .int .i64 b.f1, .int .i64 b.f2, .int .i64 b.f3, .string b.f4, .slice Ab b.f5.length cb] 42) := ⟨s0⟩
    have i1 : Holds w' w6.heap.size (.cells #[.int .i64 z.f0, .int .i64 z.f1, .int .i64 z.f2, .int .i64 z.f3, .string z.f4, .slice Ac z.f5.length cc] 42) := ⟨s1⟩
    have i2 : Holds w' w9.heap.size (.cells #[.int .i64 z.f0, .int .i64 z.f1, .int .i64 z.f2, .int .i64 z.f3, .string z.f4, .slice Ad z.f5.length cd] 42) := ⟨s2⟩
    go_simp
    with_reducible rfl
  rotate_left
  · simp only [Act.put, List.setIfInBounds_toArray, List.set_cons_zero, List.set_cons_succ, i64_w, i32_w]
    rfl
  refine take_ (i := 17) (N := some 57) (v := ?_) (a' := ?_) #[true, true, true, true, true, true, true, true, true, true, true, true, true, true, true, true, true, true, false, false, false, false, false, false, false, false, false, false, false] rfl rfl (take_ofW HT_.out HW_.out (by kernel_rfl)) (fun _ _ _ h => h) (Or.inl ⟨by rfl, ?_⟩) hHeld ?_ ?_
  rotate_left
  · rintro w' ⟨s0, s1, s2⟩
    have i0 : Holds w' w.heap.size (.cells #[.int .i64 b.f0, .int .i64 b.f1, .int .i64 b.f2, .int .i64 b.f3, .string b.f4, .slice Ab b.f5.length cb] 42) := ⟨s0⟩
    have i1 : Holds w' w6.heap.size (.cells #[.int .i64 z.f0, .int .i64 z.f1, .int .i64 z.f2, .int .i64 z.f3, .string z.f4, .slice Ac z.f5.length cc] 42) := ⟨s1⟩
    have i2 : Holds w' w9.heap.size (.cells #[.int .i64 z.f0, .int .i64 z.f1, .int .i64 z.f2, .int .i64 z.f3, .string z.f4, .slice Ad z.f5.length cd] 42) := ⟨s2⟩
    go_simp
    with_reducible rfl
  rotate_left
  · simp only [Act.put, List.setIfInBounds_toArray, List.set_cons_zero, List.set_cons_succ, i64_w, i32_w]
    rfl
  refine one_ (i := 18) (N := some 58) #[true, true, true, true, true, true, true, true, true, true, true, true, true, true, true, true, true, true, true, false, false, false, false, false, false, false, false, false, false] rfl rfl (one_of HT_.out (by kernel_rfl)) (by decide) (fun K hK => ?_)
  refine goes_ Try.func23 (by kernel_rfl) rfl #[ansV z Ac cc, ansV z Ad cd] (by rfl) rfl rfl (by (try simp only [List.map_toArray, List.map_cons, List.map_nil]); first | done | rfl) ?_
  refine (HSM.out _ Ac Ad cc cd ?hC ?hD).mono ?_
  case hC => exact (Kd.R_reads' (rowB HZ1.out (bel w6 _))).2.2
  case hD => exact (Kd.R_reads' (rowB HZ2.out (bel w9 _))).2.2
  rintro r23 w23 ⟨rfl, hb⟩
  have p23 := prev_call hb
  clear hb
  refine ⟨_, rfl, ?_⟩
  refine hK.out _ _ ⟨held, held, held⟩ (fun hHeld => ?_)
  clear hK K
  refine norm_ (a' := ?_) ?_ ?_
  rotate_left
  · show Act.put _ (some 58) _ = _
    simp only [Act.put, List.setIfInBounds_toArray, List.set_cons_zero, List.set_cons_succ, i64_w, i32_w]
    rfl
  refine pure_ (i := 19) (N := some 59) (v := ?_) (a' := ?_) #[true, true, true, true, true, true, true, true, true, true, true, true, true, true, true, true, true, true, true, true, false, false, false, false, false, false, false, false, false] rfl rfl (any_of HT_.out (by kernel_rfl)) (fun _ _ _ h => h) (Or.inl ⟨by rfl, ?_⟩) ?_ ?_
  rotate_left
  · intro w'
    go_simp
    with_reducible rfl
  rotate_left
  · simp only [Act.put, List.setIfInBounds_toArray, List.set_cons_zero, List.set_cons_succ, i64_w, i32_w]
    rfl
  refine pure_ (i := 20) (N := some 60) (v := ?_) (a' := ?_) #[true, true, true, true, true, true, true, true, true, true, true, true, true, true, true, true, true, true, true, true, true, false, false, false, false, false, false, false, false] rfl rfl (any_of HT_.out (by kernel_rfl)) (fun _ _ _ h => h) (Or.inl ⟨by rfl, ?_⟩) ?_ ?_
  rotate_left
  · intro w'
    go_simp
    with_reducible rfl
  rotate_left
  · simp only [Act.put, List.setIfInBounds_toArray, List.set_cons_zero, List.set_cons_succ, i64_w, i32_w]
    rfl
  refine pure_ (i := 21) (N := some 61) (v := ?_) (a' := ?_) #[true, true, true, true, true, true, true, true, true, true, true, true, true, true, true, true, true, true, true, true, true, true, false, false, false, false, false, false, false] rfl rfl (any_of HT_.out (by kernel_rfl)) (fun _ _ _ h => h) (Or.inl ⟨by rfl, ?_⟩) ?_ ?_
  rotate_left
  · intro w'
    go_simp
    with_reducible rfl
  rotate_left
  · simp only [Act.put, List.setIfInBounds_toArray, List.set_cons_zero, List.set_cons_succ, i64_w, i32_w]
    rfl
  refine pure_ (i := 22) (N := some 62) (v := ?_) (a' := ?_) #[true, true, true, true, true, true, true, true, true, true, true, true, true, true, true, true, true, true, true, true, true, true, true, false, false, false, false, false, false] rfl rfl (any_of HT_.out (by kernel_rfl)) (fun _ _ _ h => h) (Or.inl ⟨by rfl, ?_⟩) ?_ ?_
  rotate_left
  · intro w'
    go_simp
    with_reducible rfl
  rotate_left
  · simp only [Act.put, List.setIfInBounds_toArray, List.set_cons_zero, List.set_cons_succ, i64_w, i32_w]
    rfl
  refine pure_ (i := 23) (N := some 63) (v := ?_) (a' := ?_) #[true, true, true, true, true, true, true, true, true, true, true, true, true, true, true, true, true, true, true, true, true, true, true, true, false, false, false, false, false] rfl rfl (any_of HT_.out (by kernel_rfl)) (fun _ _ _ h => h) (Or.inl ⟨by rfl, ?_⟩) ?_ ?_
  rotate_left
  · intro w'
    go_simp
    with_reducible rfl
  rotate_left
  · simp only [Act.put, List.setIfInBounds_toArray, List.set_cons_zero, List.set_cons_succ, i64_w, i32_w]
    rfl
  refine pure_ (i := 24) (N := some 64) (v := ?_) (a' := ?_) #[true, true, true, true, true, true, true, true, true, true, true, true, true, true, true, true, true, true, true, true, true, true, true, true, true, false, false, false, false] rfl rfl (any_of HT_.out (by kernel_rfl)) (fun _ _ _ h => h) (Or.inl ⟨by rfl, ?_⟩) ?_ ?_
  rotate_left
  · intro w'
    go_simp
    with_reducible rfl
  rotate_left
  · simp only [Act.put, List.setIfInBounds_toArray, List.set_cons_zero, List.set_cons_succ, i64_w, i32_w]
    rfl
  refine pure_ (i := 25) (N := some 65) (v := ?_) (a' := ?_) #[true, true, true, true, true, true, true, true, true, true, true, true, true, true, true, true, true, true, true, true, true, true, true, true, true, true, false, false, false] rfl rfl (any_of HT_.out (by kernel_rfl)) (fun _ _ _ h => h) (Or.inl ⟨by rfl, ?_⟩) ?_ ?_
  rotate_left
  · intro w'
    go_simp
    with_reducible rfl
  rotate_left
  · simp only [Act.put, List.setIfInBounds_toArray, List.set_cons_zero, List.set_cons_succ, i64_w, i32_w]
    rfl
  refine one_ (i := 26) (N := some 66) #[true, true, true, true, true, true, true, true, true, true, true, true, true, true, true, true, true, true, true, true, true, true, true, true, true, true, true, false, false] rfl rfl (one_of HT_.out (by kernel_rfl)) (by decide) (fun K hK => ?_)
  refine goes_ Try.func15 (by kernel_rfl) rfl #[] (by rfl) rfl rfl (by (try simp only [List.map_toArray, List.map_cons, List.map_nil]); first | done | rfl) ?_
  refine (works_any _).mono ?_
  rintro r24 w24 ⟨rfl, hb⟩
  have p24 := prev_call hb
  clear hb
  refine ⟨_, rfl, ?_⟩
  refine hK.out _ _ ⟨held, held, held⟩ (fun hHeld => ?_)
  clear hK K
  refine norm_ (a' := ?_) ?_ ?_
  rotate_left
  · show Act.put _ (some 66) _ = _
    simp only [Act.put, List.setIfInBounds_toArray, List.set_cons_zero, List.set_cons_succ, i64_w, i32_w]
    rfl
  refine pure_ (i := 27) (N := some 67) (v := ?_) (a' := ?_) #[true, true, true, true, true, true, true, true, true, true, true, true, true, true, true, true, true, true, true, true, true, true, true, true, true, true, true, true, false] rfl rfl (any_of HT_.out (by kernel_rfl)) (fun _ _ _ h => h) (Or.inl ⟨by rfl, ?_⟩) ?_ ?_
  rotate_left
  · intro w'
    go_simp
    with_reducible rfl
  rotate_left
  · simp only [Act.put, List.setIfInBounds_toArray, List.set_cons_zero, List.set_cons_succ, i64_w, i32_w]
    rfl
  refine pure_ (i := 28) (N := some 4) (v := ?_) (a' := ?_) #[true, true, true, true, true, true, true, true, true, true, true, true, true, true, true, true, true, true, true, true, true, true, true, true, true, true, true, true, true] rfl rfl (any_of HT_.out (by kernel_rfl)) (fun _ _ _ h => h) (Or.inl ⟨by rfl, ?_⟩) ?_ ?_
  rotate_left
  · intro w'
    go_simp
    with_reducible rfl
  rotate_left
  · simp only [Act.put, List.setIfInBounds_toArray, List.set_cons_zero, List.set_cons_succ, i64_w, i32_w]
    rfl
  refine done_ (done_of HT_.out (by kernel_rfl)) ?_
  go_wp2_with fail
  go_ret
  exact ⟨rfl, bel _ _⟩
theorem answers_any (w : World) (a : S42) (A : Option Addr) (c : Nat) (s : ByteArray) (hC : k81.C w A a.f5.length a.f5) :
    Calls Try.prog 5 #[ansV a A c, .string s] w fun e w' => e = .returned (.bool true) ∧ Below w.heap.size w w' :=
  answers_walk w a (cutA a) (raS (cut9 s)).1 A c s (cut9 s) (ansS (cutA a)).1 (ansS (cutA a)).2 (raS (cut9 s)).2 (if ansOk (cutA a) = true then 0 else 2) rfl hC
    (fun W A c h => fewer_any W a A c h h.2.1)
    (fun W A c h => answer_any W (cutA a) A c h)
    (fun W A c h => refans_any W (cutA a) A c h)
    (fun W => ra_any W (cut9 s))
    (fun W => rra_any W (cut9 s) (cut9_len s))
    (fun W A c h => ck_any W (cutA a) A c h)
    (fun W A c h => refck_any W (cutA a) A c h)
    (fun W A B c d h1 h2 => by
      have hl := raS_len (cut9 s)
      have := sameA_any W (raS (cut9 s)).1 (raS (cut9 s)).1 A B c d h1 h2 hl hl
      rw [(sameA_iff _ _).mpr rfl] at this
      exact this)
end Go.Proofs.Ytjaneipklpgnlaa.Q

namespace Go.Proofs.Ytjaneipklpgnlaa.talkAnswers
open Go.ChangeShapes Go.WideShapes Go.ChangeAt Go.RowKit Go.Proofs.YtjaneipklpgnlaaK Go.Proofs.YtjaneipklpgnlaaW.PrintWords Go.Proofs.Ytjaneipklpgnlaa.Q
open Go.ChangeMaps (open_string shut_string)
set_option linter.unusedVariables false
theorem own : ownKnob Try.prog.godebug = none := by kernel_rfl
theorem laidOut : laidOutB Try.prog = true := by kernel_rfl
set_option maxRecDepth 100000 in
theorem lifted (os : Os) (started : os.Started) (H : Type) (enc : TypeId × Value → H) :
    ReturnsInHanded {} Try.checked os 5 .any (Rows.talkAnswersSpec.pre6 enc Try.prog Try.f5 Rows.talkAnswersRow.domain false) (Rows.talkAnswersSpec.post enc Try.prog Try.f5 false true false false) := by
  refine returnsInHanded_of_change_sized (C := Try.checked) own started (by kernel_rfl) Try.func5
    (ChangeSpec.witness6 (enc := enc) (C := Try.checked) false ⟨#[], #[.agg #[.int .i64 0, .int .i64 0, .int .i64 0, .int .i64 0, .string ByteArray.empty, .slice none 0 0], .string ByteArray.empty], []⟩ 8 (by kernel_rfl) (by kernel_rfl) (by kernel_rfl) (by kernel_rfl)) ?_
  intro W base args ds gs before hval0 hW hcnd hsz0 _
  have hsz : (DataW.weightsEach Try.prog (Try.f5.params.toList ++ Rows.talkAnswersSpec.plain.varTypes Try.prog) (ds ++ gs)).all (· ≤ reachBytes) = true := hsz0
  have hval : ∀ (j : Nat) t v, Try.f5.params[j]? = some t → args[j]? = some v → Value.okWide Try.prog W .any base t v := hval0
  have hW' := hW
  obtain ⟨p, q, hA0, hV, rfl, hfz, hnd⟩ := hW
  have hA : DataW.TrodAll enc Try.prog W 0 (fun _ => true) true Try.f5.params.toList args.toList ds p := hA0
  rw [Try.params5] at hA hval hsz
  obtain ⟨v0, vs0, d0, ds0, p0, q0, hargs, rfl, rfl, h0, r0⟩ := trodAll_cons hA
  obtain ⟨v1, vs1, d1, ds1, p1, q1, rfl, rfl, rfl, h1, r1⟩ := trodAll_cons r0
  obtain ⟨rfl, rfl, rfl⟩ := trodAll_nil r1
  obtain rfl : args = #[v0, v1] := by cases args; simp_all
  obtain ⟨rfl, rfl⟩ := trodVars_none hV
  obtain ⟨cs0, rfl, hz0⟩ := okWide_struct Try.underlying42 (hval 0 42 v0 rfl rfl)
  have k0 := h0
  have lt0 : ∀ x ∈ p0, x.block < W.heap.size := by obtain ⟨m, hm⟩ := k0; exact DataW.trod_lt m _ _ _ hm
  obtain ⟨x0, hK0, hG0⟩ : ∃ x, k42.K W x cs0.toList ∧ good42 x := by
    obtain ⟨fuel, hf⟩ := h0
    exact opens42 _ _ _ _ _ _ _ _ _ hf
  obtain ⟨A0, c0, e0, hl0, hC0⟩ := k42_open hK0
  obtain rfl : cs0 = #[.int .i64 x0.f0, .int .i64 x0.f1, .int .i64 x0.f2, .int .i64 x0.f3, .string x0.f4, .slice A0 x0.f5.length c0] := by
    cases cs0
    exact congrArg Array.mk e0
  obtain ⟨a1, rfl, rfl, rfl, y1⟩ := open_string Try.underlying9 (hval 1 9 v1 rfl rfl) h1
  have w1 : a1.size ≤ 140737488351232 := by
    have z := sized_string hsz (j := 1) (t := 9) rfl rfl
    rw [Array.length_toList] at z
    exact z
  clear hA0 hval0 hsz0 hsz
  refine (answers_any W x0 A0 c0 a1 hC0).mono fun e W' he0 => ?_
  obtain ⟨rfl, bel0⟩ := he0
  have bel : Below W.heap.size W W' := bel0
  exact ⟨_, rfl, _, _, _, [], _, [], hW', trodAll_mk1 (shut_bool Try.underlying4 _), (trodAll_cons_mk (Below.trod laidOut (by kernel_rfl) (of_decide_eq_true (by kernel_rfl)) k0 bel lt0) (trodAll_cons_mk (shut_string Try.underlying9 y1) trodAll_mk0)), rfl, bel.frame _, fun h => by cases h⟩
theorem over : Rows.talkAnswersRow.holds Try.pinned (OpenSpec.ofChange Rows.talkAnswersSpec) :=
  OpenClaim.holds_of_wide 5 Try.f5 rfl rfl rfl rfl rfl rfl rfl ⟨rfl, rfl, rfl, rfl, rfl⟩ rfl rfl rfl rfl rfl (by kernel_rfl) Try.func5 (by kernel_rfl)
    (of_decide_eq_true (by kernel_rfl)) (by unfold Func.isWrapper; first | (rw [if_pos (by decide +kernel)]; kernel_rfl) | (rw [if_neg (by decide +kernel)]; exact ⟨rfl, rfl⟩))
    (fun os started H enc _ => lifted os started H enc)
theorem proved : Rows.TalkAnswersSaid := over
#print axioms proved
end Go.Proofs.Ytjaneipklpgnlaa.talkAnswers
namespace Go.Proofs.Ytjaneipklpgnlaa
/-- The row, under a short name, for the claim. -/
theorem talkAnswers_holds : Rows.TalkAnswersSaid := talkAnswers.proved
end Go.Proofs.Ytjaneipklpgnlaa
