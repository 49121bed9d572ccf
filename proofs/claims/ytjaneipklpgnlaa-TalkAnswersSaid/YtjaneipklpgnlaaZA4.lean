/- Parts of the proof: HReq, K3, HTexts, Q32, Q34, Q35, HRead, Q11, Q13, Q14, Q23, Q26, PRef, Q2, Q28, PFew, PCuts, PLay, K6, K7, K8, HChg, HAns, HRec, HAnsw, K9, HUnrec. -/
import Derived.Test.YtjaneipklpgnlaaZA1
import Derived.Test.YtjaneipklpgnlaaZA2
import Derived.Test.YtjaneipklpgnlaaZA3
import Derived.Test.YtjaneipklpgnlaaWMore
import Derived.Laws.Rows
import Derived.RangeFuncNested
import Derived.RangeFuncBound
import Derived.RangeFuncCalls
import Derived.RangeFuncLeaves
import Derived.Shelf.Abstract
import Derived.Shelf.RegionOpen
import Derived.WalkKit
import Derived.OwnWalkIn
import Derived.TacticsInMore
import Derived.LoopNIn
import Derived.LoopIn
import Derived.Maps.AppendAt
import Derived.OpenShut
import Derived.Test.YtjaneipklpgnlaaWEqStruct
import Derived.ChangeKeysEq
import Derived.Test.YtjaneipklpgnlaaWGuard
import Derived.Laws.IdiomStrings
import Derived.Deep.QuietTactic
import Derived.Lib.BufferWrite
import Derived.Laws.CopyRow
import Derived.Deep.RegionLaw
namespace Go.Proofs.Ytjaneipklpgnlaa.Q
open Go Go.RowKit Go.Proofs.YtjaneipklpgnlaaW.PrintWords Go.Proofs.YtjaneipklpgnlaaW.PrintLast Go.Proofs.YtjaneipklpgnlaaW.PrintMore
set_option linter.unusedSimpArgs false
set_option linter.unusedVariables false
/-- May a request be; its fields; its bytes. -/
def reqOk (r : S23) : Bool := decide (1 ≤ r.f0) && decide (r.f0 ≤ 8) && !badN r.f1 && !badN r.f2 && !badN r.f3 && !badN r.f4 && !badN r.f5 && !badT r.f6 && !badT r.f7
def reqL (r : S23) : List S84 := layN 1 [r.f0, r.f1, r.f2, r.f3, r.f4, r.f5] ++ layT 7 [r.f6, r.f7]
def reqS (r : S23) : ByteArray × Int := if reqOk r = true then encGo (reqL r) 0 [] else (⟨#[]⟩, 2)
def talk_Request.f (a0 a1 a2 a3 a4 a5 : Int) (a6 a7 : ByteArray) : Option (ByteArray × Int) := some (reqS ⟨a0, a1, a2, a3, a4, a5, a6, a7⟩)
theorem sure_fn (b : Bool) : talk_sure.f b = some (if b = true then 0 else 2) := by
  cases b <;> rfl
theorem check_fn (r : S23) : talk_CheckRequest.f r.f0 r.f1 r.f2 r.f3 r.f4 r.f5 r.f6 r.f7 = some (if reqOk r = true then 0 else 2) := by
  unfold talk_CheckRequest.f
  by_cases h1 : r.f0 ≥ 1
  · by_cases h2 : r.f0 ≤ 8
    · rw [if_pos h1, if_pos h2]
      have e1 : talk_nums.f [r.f1, r.f2, r.f3, r.f4, r.f5] = some (!(badN r.f1 || (badN r.f2 || (badN r.f3 || (badN r.f4 || badN r.f5))))) := by
        unfold talk_nums.f
        rw [if_pos (by simp)]
        simp
      have e2 : talk_texts.f [r.f6, r.f7] = some (!(badT r.f6 || badT r.f7)) := by
        unfold talk_texts.f
        rw [if_pos (by simp)]
        simp
      rw [e1, Option.bind_some]
      have hk : reqOk r = (!(badN r.f1 || (badN r.f2 || (badN r.f3 || (badN r.f4 || badN r.f5)))) && !(badT r.f6 || badT r.f7)) := by
        unfold reqOk
        rw [decide_eq_true (show 1 ≤ r.f0 from h1), decide_eq_true h2]
        simp [Bool.and_assoc]
      rw [hk]
      by_cases h3 : (!(badN r.f1 || (badN r.f2 || (badN r.f3 || (badN r.f4 || badN r.f5))))) = true
      · rw [if_pos h3, e2, Option.bind_some, sure_fn, Option.bind_some, h3, Bool.true_and]
      · rw [if_neg h3, sure_fn, Option.bind_some, Bool.eq_false_iff.2 h3, Bool.false_and]
    · rw [if_pos h1, if_neg h2, sure_fn, Option.bind_some]
      have hk : reqOk r = false := by unfold reqOk; rw [decide_eq_false h2]; simp
      rw [hk]
  · rw [if_neg h1, sure_fn, Option.bind_some]
    have hk : reqOk r = false := by unfold reqOk; rw [decide_eq_false (show ¬ 1 ≤ r.f0 from h1)]; simp
    rw [hk]
theorem reqL_len (r : S23) : (reqL r).length ≤ 8 := by
  unfold reqL
  have h1 := layN_len [r.f0, r.f1, r.f2, r.f3, r.f4, r.f5] 1
  have h2 := layT_len [r.f6, r.f7] 7
  rw [List.length_append]
  simp only [List.length_cons, List.length_nil] at h1 h2
  omega
set_option maxRecDepth 100000 in
set_option maxHeartbeats 1000000 in
theorem req_any (w : World) (r : S23) : Calls Try.prog 9 #[.agg #[.int .i64 r.f0, .int .i64 r.f1, .int .i64 r.f2, .int .i64 r.f3, .int .i64 r.f4, .int .i64 r.f5, .string r.f6, .string r.f7]] w fun e w' => e = .returned (.tuple #[.string (reqS r).1, .int .i64 (reqS r).2]) ∧ Below w.heap.size w w' := by
  have hu23 := Try.underlying23
  have hc := fun W => talk_CheckRequest.calls r.f0 r.f1 r.f2 r.f3 r.f4 r.f5 r.f6 r.f7 _ W (check_fn r)
  have hB0 := below_alloc (Below.refl w.heap.size w) (.cells #[.int .i64 r.f0, .int .i64 r.f1, .int .i64 r.f2, .int .i64 r.f3, .int .i64 r.f4, .int .i64 r.f5, .string r.f6, .string r.f7] 23)
  have HB0 := Aside0.mk hB0
  clear hB0
  by_cases hk : reqOk r = true
  · rw [if_pos hk] at hc
    have HC := Aside0.mk hc
    have hs : reqS r = encGo (reqL r) 0 [] := by unfold reqS; rw [if_pos hk]
    rw [hs]
    clear hc hs hk
    have he := enc_fn (reqL r) (by have := reqL_len r; omega) 100 (by have := reqL_len r; omega)
    obtain ⟨t, q, hq⟩ : ∃ t q, encGo (reqL r) 0 [] = (t, q) := ⟨_, _, rfl⟩
    rw [hq] at he ⊢
    have HE := Aside0.mk he
    clear he hq
    go_enter Try.func9, Try.ntmps9
    go_wp2_with fail
    refine (HC.out _).mono ?_
    rintro e w1 ⟨rfl, hb1⟩
    have hbx := blk_below (blk_new w (.cells #[.int .i64 r.f0, .int .i64 r.f1, .int .i64 r.f2, .int .i64 r.f3, .int .i64 r.f4, .int .i64 r.f5, .string r.f6, .string r.f7] 23)) hb1
    have HB1 := Aside0.mk (below_step HB0.out hb1)
    have HX := Aside0.mk hbx
    have c0 := (blk_cell hbx 0).trans (rfl : _ = some (Value.int .i64 r.f0))
    have c1 := (blk_cell hbx 1).trans (rfl : _ = some (Value.int .i64 r.f1))
    have c2 := (blk_cell hbx 2).trans (rfl : _ = some (Value.int .i64 r.f2))
    have c3 := (blk_cell hbx 3).trans (rfl : _ = some (Value.int .i64 r.f3))
    have c4 := (blk_cell hbx 4).trans (rfl : _ = some (Value.int .i64 r.f4))
    have c5 := (blk_cell hbx 5).trans (rfl : _ = some (Value.int .i64 r.f5))
    clear hbx hb1
    have hl := lay_num_any (w1.alloc (.cells #[.int .i64 r.f0, .int .i64 r.f1, .int .i64 r.f2, .int .i64 r.f3, .int .i64 r.f4, .int .i64 r.f5] 3)) (w1.heap.size + 1) w1.heap.size 6 (.slice none 0 0) [] 1 [r.f0, r.f1, r.f2, r.f3, r.f4, r.f5] (by decide) (by decide) (Kd.R_nil _ _ _ _ _) (by rw [World.size_alloc]; exact Nat.le_refl _) (by simp) (blk_new w1 _)
    have HL := Aside0.mk hl
    clear hl
    go_wp2_with fail
    refine (HL.out).mono ?_
    rintro e w2 ⟨v, rfl, hv, hb2⟩
    clear c0 c1 c2 c3 c4 c5
    have hws : w.heap.size < w1.heap.size := blk_lt HX.out
    have hbx := (hb2.block w.heap.size (by omega)).trans (blk_alloc HX.out _)
    have HX2 := Aside0.mk hbx
    have HB2 := Aside0.mk ((below_alloc HB1.out (.cells #[.int .i64 r.f0, .int .i64 r.f1, .int .i64 r.f2, .int .i64 r.f3, .int .i64 r.f4, .int .i64 r.f5] 3)).trans (hb2.mono (by omega)))
    have hsz2 := hb2.size
    rw [World.size_alloc] at hsz2
    have c6 := (blk_cell hbx 6).trans (rfl : _ = some (Value.string r.f6))
    have c7 := (blk_cell hbx 7).trans (rfl : _ = some (Value.string r.f7))
    clear hbx hb2
    have hl := lay_text_any (w2.alloc (.cells #[.string r.f6, .string r.f7] 9)) (w1.heap.size + 1) w2.heap.size 2 v _ 7 [r.f6, r.f7] (by decide) (by decide) (Kd.R_alloc hv _) (by rw [World.size_alloc]; omega) (by have := layN_len [r.f0, r.f1, r.f2, r.f3, r.f4, r.f5] 1; simp only [List.nil_append, List.length_cons, List.length_nil] at this ⊢; omega) (blk_new w2 _)
    have HL2 := Aside0.mk hl
    clear hl hv
    go_wp2_with fail
    refine (HL2.out).mono ?_
    rintro e w3 ⟨v3, rfl, hv3, hb3⟩
    have HB3 := Aside0.mk ((below_alloc HB2.out (.cells #[.string r.f6, .string r.f7] 9)).trans (hb3.mono (by omega)))
    rw [List.nil_append] at hv3
    replace hv3 : Kd.R k84 84 w3 (w1.heap.size + 1) (fun _ => True) v3 (reqL r) := hv3
    obtain ⟨A3, k3, he3, hk3, hc3⟩ := Kd.R_reads hv3
    subst he3
    have hn := field_Encode.calls 100 A3 k3 (reqL r) t q w3 hc3 hk3 HE.out
    have HN := Aside0.mk hn
    clear hn hc3 hk3 hv3 hb3 c6 c7
    go_wp2_with fail
    refine (HN.out).mono ?_
    rintro e w4 ⟨rfl, hb4⟩
    have HB4 := Aside0.mk (below_step HB3.out hb4)
    clear hb4
    go_wp2_with fail
    go_ret2
    exact ⟨rfl, HB4.out⟩
  · rw [if_neg hk] at hc
    have HC := Aside0.mk hc
    have hs : reqS r = (⟨#[]⟩, 2) := by unfold reqS; rw [if_neg hk]
    rw [hs]
    clear hc hs hk
    go_enter Try.func9, Try.ntmps9
    go_wp2_with fail
    refine (HC.out _).mono ?_
    rintro e w1 ⟨rfl, hb1⟩
    have HB1 := Aside0.mk (below_step HB0.out hb1)
    clear hb1
    go_wp2_with fail
    go_ret2
    exact ⟨rfl, HB1.out⟩
theorem talk_Request.calls (a0_0 a0_1 a0_2 a0_3 a0_4 a0_5 : Int) (a0_6 a0_7 : ByteArray) (r1 : ByteArray) (r2 : Int) (w : World) (h : talk_Request.f a0_0 a0_1 a0_2 a0_3 a0_4 a0_5 a0_6 a0_7 = some (r1, r2)) :
    Calls Try.prog 9 #[.agg #[.int .i64 a0_0, .int .i64 a0_1, .int .i64 a0_2, .int .i64 a0_3, .int .i64 a0_4, .int .i64 a0_5, .string a0_6, .string a0_7]] w fun e w' => e = .returned (.tuple #[.string r1, .int .i64 r2]) ∧ Below w.heap.size w w' := by
  have H := req_any w ⟨a0_0, a0_1, a0_2, a0_3, a0_4, a0_5, a0_6, a0_7⟩
  have h := Option.some.inj h
  rw [h] at H
  exact H
end Go.Proofs.Ytjaneipklpgnlaa.Q

namespace Go.Proofs.YtjaneipklpgnlaaK
open Go Go.RowKit Go.Proofs.YtjaneipklpgnlaaW.PrintWords
/-! A whole box (a struct's, an array's) is read, or written, at once. -/
theorem grown_setRow (w : World) (g : Nat) (cs : Array Value) : w.grownBy (w.setRow g cs) (some g) := by
  constructor
  all_goals first | rfl | (simp; done) | skip
  all_goals intro k hk hne
  all_goals exact setRow_other w g k cs (by intro e; exact hne (by rw [e]))
theorem below_box {w W W1 : World} {g : Nat} (h : Below w.heap.size w W) (hg : W.grownBy W1 (some g)) (hb : w.heap.size ≤ g) : Below w.heap.size w W1 :=
  h.grown hg h.size (fun k hk => by cases hk; exact hb)
section
variable {P : Program} {ops : Array Oper} {rest : List Oper} {o : Oper} {a : Act} {W : World} {Q : Exit → Act → World → Prop}
theorem box_store (hgd : o.guard = none) (hN : o.dst = none) (ty : TypeId) (x y : Operand) (ho : o.op = .store ty x y)
    {g : Nat} {t : TypeId} {old : Array Value} (hg : W.heap[g]? = some (.cells old t (0, 0))) (cells : Array Value) (hx : a.eval x = .pointer (some ⟨g, 0, none⟩)) (hy : a.eval y = .agg cells)
    (hi : (P.info? ty).map (·.size) = some cells.size) (hold : old.size = cells.size) (h1 : cells.toList.all (·.oneCell') = true)
    (h : ∀ w1, w1.heap[g]? = some (.cells cells t (0, 0)) → W.grownBy w1 (some g) → wpList P ops Q rest a w1) : wpList P ops Q (o :: rest) a W := by
  refine wpList_store_row hgd ty x y ho g cells hx hy t old hg hi hold (by rw [← Array.all_toList]; exact h1) ?_
  rw [hN]
  exact h _ (setRow_heap W g old cells t (0, 0) hg) (grown_setRow W g cells)
theorem box_load (hgd : o.guard = none) (ty : TypeId) (x : Operand) (ho : o.op = .load ty x) {g : Nat} {t : TypeId} {cs : Array Value} (hg : W.heap[g]? = some (.cells cs t (0, 0)))
    (hx : a.eval x = .pointer (some ⟨g, 0, none⟩)) {d : TypeDesc} (hu : P.underlying ty = some d) (hd : (match d with | .struct _ | .array _ _ => true | _ => false) = true)
    (hi : (P.info? ty).map (·.size) = some cs.size) (h : wpList P ops Q rest (a.put o.dst (.agg cs)) W) : wpList P ops Q (o :: rest) a W :=
  wpList_load_row hgd ty x ho g hx t cs (0, 0) d hg hu hd hi h
theorem results_row_tmp {fn : Func} {p q : Tmp} {ty : TypeId} (h : fn.results = #[.cell p ty, .tmp q]) (tmps : Array Value) (w : World) {g : Nat} {t : TypeId} {cs : Array Value} {d : TypeDesc} (v : Value)
    (hg : w.heap[g]? = some (.cells cs t (0, 0))) (hp : tmps.getD p undef = .pointer (some ⟨g, 0, none⟩)) (hq : tmps.getD q undef = v)
    (hu : P.underlying ty = some d) (hd : (match d with | .struct _ | .array _ _ => true | _ => false) = true) (hi : (P.info? ty).map (·.size) = some cs.size) :
    (results fn tmps).run P w = .ok (.tuple #[.agg cs, v]) w := by
  have hp' : tmps[p]?.getD undef = .pointer (some ⟨g, 0, none⟩) := by simpa using hp
  have hq' : tmps[q]?.getD undef = v := by simpa using hq
  simp [results, h, hp', hq', asAddr, run_loadVar_row w g t ty cs (0, 0) d hg hu hd hi]
end
end Go.Proofs.YtjaneipklpgnlaaK

section
namespace Go.Proofs.Ytjaneipklpgnlaa.Q
open Go Go.RowKit Go.Shelf Go.Proofs.YtjaneipklpgnlaaW.PrintWords Go.Proofs.YtjaneipklpgnlaaW.PrintLast Go.Proofs.YtjaneipklpgnlaaW.PrintMore
attribute [local go_sem] Oper.semAt_some
set_option linter.unusedSimpArgs false
set_option linter.unusedVariables false
/-- What a round over 'of' keeps: what lay below n₀, and the iterator's three boxes. -/
def KpOf (n₀ B : Nat) (W W' : World) : Prop := Below n₀ W W' ∧ ∀ k t v, (t = 57 ∨ t = 3) → B ≤ k → k < B + 3 → Boxed W k t v → Boxed W' k t v
theorem kpOf_t {n₀ B : Nat} {X Y Z : World} (h : KpOf n₀ B X Y) (h' : KpOf n₀ B Y Z) : KpOf n₀ B X Z := ⟨h.1.trans h'.1, fun k t v h0 h1 h2 hb => h'.2 k t v h0 h1 h2 (h.2 k t v h0 h1 h2 hb)⟩
theorem kpOf_b {n₀ B : Nat} {w : World} (hn : n₀ ≤ w.heap.size) (W : World) (l : Nat) (o o' : Obj) (hl : w.heap.size ≤ l) (h : W.heap[l]? = some o) (ho : o.isCells = false) (hw : o.isWalk = false) : KpOf n₀ B W (W.putObj l o') :=
  ⟨belowK_b hn W l o o' hl h ho hw, fun k t v _ _ _ hb => hb.kept (grownBy_putObj' W l o') (fun e => by
    cases e
    rw [show W.heap[l]? = _ from hb] at h
    cases h
    cases ho)⟩
def enc84 (x : S84) : Value := .agg #[.int .i64 x.f0, .int .i64 x.f1, .int .i64 x.f2, .string x.f3]
set_option maxHeartbeats 1000000 in
theorem of_in (F : Fence) (n : Nat) (h32 : F.fn 65) (hro : F.round = none) (A : Option Addr) (len c : Nat) (tag kind : Int) (w : World) :
    CallsIn F n Try.prog 65 #[.slice A len c, .int .i64 tag, .int .i64 kind] w fun e w' => e = .returned (.func (.func 71) #[] #[.pointer (some ⟨w.heap.size, 0, none⟩), .pointer (some ⟨w.heap.size + 1, 0, none⟩), .pointer (some ⟨w.heap.size + 1 + 1, 0, none⟩)]) ∧ w' = ((w.alloc (.cells #[.slice A len c] 57)).alloc (.cells #[.int .i64 tag] 3)).alloc (.cells #[.int .i64 kind] 3) := by
  refine callsIn_of_wp Try.func65 rfl h32 ?_ hro
  simp only [Try.ntmps65, List.size_toArray, List.length_cons, List.length_nil, Nat.reduceAdd, Nat.reduceSub, Array.replicate_succ, Array.replicate_zero, List.push_toArray, List.append_toArray, List.nil_append, List.cons_append]
  gi_wp2
  go_ret
  exact ⟨rfl, rfl⟩
set_option maxRecDepth 100000 in
set_option maxHeartbeats 4000000 in
theorem of1_in (F : Fence) (n : Nat) (h38 : F.fn 71) (hro : F.round = none) (hn : 1 ≤ n) (l B : Nat) (A : Option Addr) (c : Nat) (xs : List S84) (tag kind : Int) (w : World) (hr : Kd.C k84 w A xs.length xs) (hlen : xs.length ≤ 1048576) (J Jx : List S84 → World → Prop)
    (hY : ∀ pre x W, J pre W → pre.length < xs.length → YieldAt F (n - 1) Try.prog l #[enc84 x] W fun e W' =>
      (e = .returned (.bool true) ∧ J (pre ++ [x]) W' ∧ KpOf w.heap.size B W W') ∨ (e = .returned (.bool false) ∧ Jx (pre ++ [x]) W'))
    (W : World) (hW : Below w.heap.size w W) (b1 : Boxed W B 57 (.slice A xs.length c)) (b2 : Boxed W (B + 1) 3 (.int .i64 tag)) (b3 : Boxed W (B + 1 + 1) 3 (.int .i64 kind)) (hJ : AbidesFrom W.heap.size J) (h0 : J [] W) :
    CallsIn F n Try.prog 71 #[.func (.yield l) #[] #[], .pointer (some ⟨B, 0, none⟩), .pointer (some ⟨B + 1, 0, none⟩), .pointer (some ⟨B + 1 + 1, 0, none⟩)] W fun e W' => (∃ v, e = .returned v) ∧
      ((∃ ys, ys = xs.filter (isOf tag kind) ∧ J ys W') ∨ (∃ pre, pre <+: xs.filter (isOf tag kind) ∧ Jx pre W')) := by
  have c1 := b1.cell
  have HR := Aside0.mk hr
  have HW := Aside0.mk hW
  have HY := Aside0.mk hY
  clear hr hW hY
  have hu84 := Try.underlying84
  have hja : ∀ s W' o, J s W' → J s (W'.alloc o) := fun s W' o h => hJ s W' _ none h (World.grownBy_alloc W' o none) (fun r e => by cases e)
  have HJA := Aside0.mk hja
  clear hja hJ
  refine callsIn_of_wp Try.func71 rfl h38 ?_ hro
  simp only [Try.ntmps71, List.size_toArray, List.length_cons, List.length_nil, Nat.reduceAdd, Nat.reduceSub, Array.replicate_succ, Array.replicate_zero, List.push_toArray, List.append_toArray, List.nil_append, List.cons_append]
  gi_wp2
  gi_loopw [9] (fun i wr => ∃ k : Nat, k ≤ xs.length ∧ i = .int .i64 k ∧ J ((xs.take k).filter (isOf tag kind)) wr ∧ Aside0 (Below w.heap.size w wr) ∧ Boxed wr (B + 1) 3 (.int .i64 tag) ∧ Boxed wr (B + 1 + 1) 3 (.int .i64 kind))
    (fun i _ => xs.length - (intOf i).toNat)
  case atStart => exact ⟨0, Nat.zero_le _, rfl, h0, HW, b2, b3⟩
  case round =>
    obtain ⟨k, hk, rfl, hJs, HB, c2, c3⟩ := hrel
    have d2 := c2.cell
    have d3 := c3.cell
    by_cases hlt : k < xs.length
    · obtain ⟨ad, e, x0, x1, x2, x3⟩ := at_T84 HR.out (k : Int) (by omega) (by omega)
      subst e
      have hx : rd_T84 xs (k : Int) = xs[k] := by simp [rd_T84, hlt]
      rw [hx, Int.toNat_natCast] at x0 x1 x2 x3
      have hd : (xs.take (k + 1)).filter (isOf tag kind) = (xs.take k).filter (isOf tag kind) ++ (if isOf tag kind xs[k] then [xs[k]] else []) := by
        rw [List.take_succ_eq_append_getElem hlt, List.filter_append]
        cases h : isOf tag kind xs[k] <;> simp [h]
      have hp : (xs.take (k + 1)).filter (isOf tag kind) <+: xs.filter (isOf tag kind) := (List.take_prefix _ _).filter _
      have hln : ((xs.take k).filter (isOf tag kind)).length < xs.length := Nat.lt_of_le_of_lt (List.length_filter_le _ _) (by rw [List.length_take]; omega)
      have HP := Aside0.mk hp
      clear hp
      generalize xs[k] = x at x0 x1 x2 x3 hd
      have HD := Aside0.mk hd
      clear hx hd
      replace x0 := (HB.out.cell (World.block_lt_of_cell? w _ x0)).trans x0
      replace x1 := (HB.out.cell (World.block_lt_of_cell? w _ x1)).trans x1
      replace x2 := (HB.out.cell (World.block_lt_of_cell? w _ x2)).trans x2
      replace x3 := (HB.out.cell (World.block_lt_of_cell? w _ x3)).trans x3
      have hnew : ∀ o, Boxed (wr.alloc o) (B + 1) 3 (.int .i64 tag) := fun o => c2.alloc o
      have hnew3 : ∀ o, Boxed (wr.alloc o) (B + 1 + 1) 3 (.int .i64 kind) := fun o => c3.alloc o
      have e2 := fun o => (c2.alloc o).cell
      have e3 := fun o => (c3.alloc o).cell
      obtain ⟨y0, y1, y2, y3⟩ := x
      by_cases h1 : y0 = tag
      · by_cases h2 : y1 = kind
        · subst h1
          subst h2
          obtain ⟨fn, tmps, assign, body, hy, hR⟩ := HY.out _ ⟨y0, y1, y2, y3⟩ (wr.alloc (.cells #[.int .i64 y0, .int .i64 y1, .int .i64 y2, .string y3] 84 (0, 0))) (HJA.out _ _ _ hJs) hln
          have hI : isOf y0 y1 ⟨y0, y1, y2, y3⟩ = true := by simp [isOf]
          have hD := HD.out
          rw [hI, if_pos rfl] at hD
          clear HD
          have HD := Aside0.mk hD
          clear hD
          simp only [enc84] at hy
          gi_wp2
          refine hR.mono ?_
          rintro e W3 (⟨rfl, hJ3, hk3⟩ | ⟨rfl, hJx3⟩)
          · rw [← HD.out] at hJ3
            have c2' := hk3.2 _ _ _ (.inr rfl) (by omega) (by omega) (hnew _)
            have c3' := hk3.2 _ _ _ (.inr rfl) (by omega) (by omega) (hnew3 _)
            have HB3 := Aside0.mk ((HB.out.alloc (by have := HB.out.size; omega) _).trans hk3.1)
            clear hk3
            gi_wp2
            go_roundw
            case rel => exact ⟨k + 1, by omega, by go_num, hJ3, HB3, c2', c3'⟩
            case measure => simp [intOf]; omega
          · rw [← HD.out] at hJx3
            gi_wp2
            refine bodyPost_ret (results_none rfl _ _ _) rfl ?_
            exact ⟨⟨_, rfl⟩, .inr ⟨_, HP.out, hJx3⟩⟩
        · subst h1
          have hI : isOf y0 kind ⟨y0, y1, y2, y3⟩ = false := by simp [isOf, h2]
          have hD := HD.out
          rw [hI, if_neg (by simp), List.append_nil] at hD
          clear HD
          have hJ' := hJs
          rw [← hD] at hJ'
          clear hD
          gi_wp2
          refine ⟨fun _ h => (by cases h), ?_⟩
          gi_wp2
          go_roundw
          case rel => exact ⟨k + 1, by omega, by go_num, HJA.out _ _ _ hJ', ⟨HB.out.alloc (by have := HB.out.size; omega) _⟩, hnew _, hnew3 _⟩
          case measure => simp [intOf]; omega
      · have hI : isOf tag kind ⟨y0, y1, y2, y3⟩ = false := by simp [isOf, h1]
        have hD := HD.out
        rw [hI, if_neg (by simp), List.append_nil] at hD
        clear HD
        have hJ' := hJs
        rw [← hD] at hJ'
        clear hD
        gi_wp2
        refine ⟨fun _ h => (by cases h), ?_⟩
        gi_wp2
        go_roundw
        case rel => exact ⟨k + 1, by omega, by go_num, HJA.out _ _ _ hJ', ⟨HB.out.alloc (by have := HB.out.size; omega) _⟩, hnew _, hnew3 _⟩
        case measure => simp [intOf]; omega
    · obtain rfl : k = xs.length := by omega
      gi_wp2
      go_end0
      exact ⟨⟨_, rfl⟩, .inl ⟨_, by rw [List.take_length], hJs⟩⟩
theorem of_stops (F : Fence) (n : Nat) (h38 : F.fn 71) (hro : F.round = none) (hn : 1 ≤ n) (B : Nat) (A : Option Addr) (c : Nat) (xs : List S84) (tag kind : Int) (w : World) (hr : Kd.C k84 w A xs.length xs) (hlen : xs.length ≤ 1048576) (w1 : World) (hW1 : Below w.heap.size w w1)
    (b1 : Boxed w1 B 57 (.slice A xs.length c)) (b2 : Boxed w1 (B + 1) 3 (.int .i64 tag)) (b3 : Boxed w1 (B + 1 + 1) 3 (.int .i64 kind)) :
    SeqStopsK F n Try.prog 71 #[.pointer (some ⟨B, 0, none⟩), .pointer (some ⟨B + 1, 0, none⟩), .pointer (some ⟨B + 1 + 1, 0, none⟩)] (fun x : S84 => #[enc84 x]) (KpOf w.heap.size B) (fun ys => ys = xs.filter (isOf tag kind)) (fun pre => pre <+: xs.filter (isOf tag kind)) xs.length w1 := fun l J Jx W hW hJ hJx hY h0 =>
  of1_in F n h38 hro hn l B A c xs tag kind w hr hlen J Jx hY W (hW1.trans (hW.mono hW1.size)) ((hW.block _ b1.lt).trans b1) ((hW.block _ b2.lt).trans b2) ((hW.block _ b3.lt).trans b3) hJ h0
end Go.Proofs.Ytjaneipklpgnlaa.Q
end
section
namespace Go.Proofs.Ytjaneipklpgnlaa.Q
open Go Go.RowKit Go.Shelf Go.Proofs.YtjaneipklpgnlaaW.PrintWords Go.Proofs.YtjaneipklpgnlaaW.PrintLast Go.Proofs.YtjaneipklpgnlaaW.PrintMore
attribute [local go_sem] Oper.semAt_some
set_option linter.unusedSimpArgs false
set_option linter.unusedVariables false
def numV : List S84 → Int
  | [] => 0
  | x :: _ => x.f2
set_option maxRecDepth 100000 in
set_option maxHeartbeats 4000000 in
theorem num_in (F : Fence) (n : Nat) (h0 : F.fn 57) (h32 : F.fn 65) (h38 : F.fn 71) (hro : F.round = none) (hn : 5 ≤ n) (A : Option Addr) (c : Nat) (xs : List S84) (tag : Int) (w : World) (hr : Kd.C k84 w A xs.length xs) (hlen : xs.length ≤ 1048576) :
    CallsIn F n Try.prog 57 #[.slice A xs.length c, .int .i64 tag] w fun e W' => e = .returned (.tuple #[.int .i64 (numV (xs.filter (isOf tag 0))), .bool (decide (xs.filter (isOf tag 0) ≠ []))]) ∧ Below w.heap.size w W' := by
  have h1 : 1 ≤ n := by omega
  refine callsIn_of_wp_marks Try.func57 rfl h0 ?_ hro
  simp only [Try.ntmps57, List.size_toArray, List.length_cons, List.length_nil, Nat.reduceAdd, Nat.reduceSub, Array.replicate_succ, Array.replicate_zero, List.push_toArray, List.append_toArray, List.nil_append, List.cons_append]
  gi_wp2_with (gi_at_call 65; refine (of_in F (n - 1) h32 hro _ _ _ _ _ _).mono ?_; rintro e w' ⟨rfl, rfl⟩)
  obtain ⟨Z, hZ⟩ : ∃ Z, Z = (w.alloc (.cells #[.int .i64 0] 3)).alloc (.cells #[.bool false] 4) := ⟨_, rfl⟩
  have bR := Boxed.new w 3 (.int .i64 0)
  have bQ := Boxed.new (w.alloc (.cells #[.int .i64 0] 3)) 4 (.bool false)
  have bR := bR.alloc (.cells #[.bool false] 4)
  have hB0 : Below w.heap.size w Z := by rw [hZ]; exact ((Below.refl _ w).alloc (Nat.le_refl _) _).alloc (by simp) _
  have hsz : Z.heap.size = w.heap.size + 1 + 1 := by rw [hZ]; simp
  rw [World.size_alloc] at bQ
  rw [← hZ] at bR bQ ⊢
  clear hZ
  have b1 := ((Boxed.new Z 57 (.slice A xs.length c)).alloc (.cells #[.int .i64 tag] 3)).alloc (.cells #[.int .i64 0] 3)
  have b2 := (Boxed.new (Z.alloc (.cells #[.slice A xs.length c] 57)) 3 (.int .i64 tag)).alloc (.cells #[.int .i64 0] 3)
  have b3 := Boxed.new ((Z.alloc (.cells #[.slice A xs.length c] 57)).alloc (.cells #[.int .i64 tag] 3)) 3 (.int .i64 0)
  simp only [World.size_alloc] at b2 b3
  rw [hsz] at b1 b2 b3
  replace hB0 := ((hB0.alloc (by omega) (.cells #[.slice A xs.length c] 57)).alloc (by simp; omega) (.cells #[.int .i64 tag] 3)).alloc (by simp; omega) (.cells #[.int .i64 0] 3)
  replace bR := ((bR.alloc (.cells #[.slice A xs.length c] 57)).alloc (.cells #[.int .i64 tag] 3)).alloc (.cells #[.int .i64 0] 3)
  replace bQ := ((bQ.alloc (.cells #[.slice A xs.length c] 57)).alloc (.cells #[.int .i64 tag] 3)).alloc (.cells #[.int .i64 0] 3)
  have hszW : (((Z.alloc (.cells #[.slice A xs.length c] 57)).alloc (.cells #[.int .i64 tag] 3)).alloc (.cells #[.int .i64 0] 3)).heap.size = w.heap.size + 5 := by simp; omega
  obtain ⟨W0, hW0⟩ : ∃ W0, ((Z.alloc (.cells #[.slice A xs.length c] 57)).alloc (.cells #[.int .i64 tag] 3)).alloc (.cells #[.int .i64 0] 3) = W0 := ⟨_, rfl⟩
  rw [hW0] at b1 b2 b3 bR bQ hB0 hszW ⊢
  clear hW0
  refine wpIn_rangeFunc_ownH hro h1 (gf := 71) (lb := #[.pointer (some ⟨(w.heap.size + 1 + 1), 0, none⟩), .pointer (some ⟨(w.heap.size + 1 + 1) + 1, 0, none⟩), .pointer (some ⟨(w.heap.size + 1 + 1) + 1 + 1, 0, none⟩)]) rfl h38 (enters_of Try.func71 (by kernel_rfl) rfl)
    (of_stops F (n - 1) h38 hro (by omega) (w.heap.size + 1 + 1) A c xs tag 0 w hr hlen W0 hB0 b1 b2 b3) kpOf_t (kpOf_b (by omega)) (Below.refl _ _) (fun _ => rfl)
    (fun pre W => ((pre = [] ∧ Boxed W w.heap.size 3 (.int .i64 0)) ∧ Boxed W (w.heap.size + 1) 4 (.bool false)) ∧ Below w.heap.size w W)
    (fun c pre W => ((c = .ret ∧ pre ≠ []) ∧ Boxed W w.heap.size 3 (.int .i64 (numV pre)) ∧ Boxed W (w.heap.size + 1) 4 (.bool true)) ∧ Below w.heap.size w W)
    (OwnFrom.and (OwnFrom.and (OwnFrom.and (ownFrom_pure _ _) (Own.from (boxed_own _ _ _) _)) (Own.from (boxed_own _ _ _) _)) (ownFrom_below (Nat.le_refl _) (by omega)))
    (fun c => OwnFrom.and (OwnFrom.and (ownFrom_pure _ _) (OwnFrom.and (Own.from (boxed_own _ _ _) _) (Own.from (boxed_own _ _ _) _))) (ownFrom_below (Nat.le_refl _) (by omega)))
    ⟨⟨⟨rfl, bR⟩, bQ⟩, hB0⟩
    (fun x a' W => ∃ Bx, w.heap.size + 1 < Bx ∧ W.heap[Bx]? = some (.cells #[.int .i64 x.f0, .int .i64 x.f1, .int .i64 x.f2, .string x.f3] 84 (0, 0)) ∧ a' = { tmps := #[.slice A xs.length c, .int .i64 tag, undef, undef, .pointer (some ⟨w.heap.size, 0, none⟩), .pointer (some ⟨w.heap.size + 1, 0, none⟩), .pointer (some ⟨Bx, 0, none⟩), .slice A xs.length c, .int .i64 tag, .func (.func 71) #[] #[.pointer (some ⟨(w.heap.size + 1 + 1), 0, none⟩), .pointer (some ⟨(w.heap.size + 1 + 1) + 1, 0, none⟩), .pointer (some ⟨(w.heap.size + 1 + 1) + 1 + 1, 0, none⟩)], enc84 x, undef, undef], defers := [] })
    (fun x a' _ X Y row hs hg hr => by obtain ⟨Bx, e1, e2, e3⟩ := hs; exact ⟨Bx, e1, (grownBy_keeps_cells hg (fun r e => (hr r e).2) e2 rfl).trans e2, e3⟩)
    ?assign ?body ?done ?stop
  case assign =>
    rintro l pre x W K ⟨⟨⟨rfl, bR1⟩, bB1⟩, hB1⟩ hK
    simp only [enc84] at hK ⊢
    have hu84 := Try.underlying84
    gi_wp2
    exact hK _ _ ((KeepsOthers.alloc _ _).from _) ⟨(Below.refl _ W).alloc hB1.size _, fun k t v _ _ _ hb => hb.alloc _⟩ ⟨⟨⟨by first | rfl | trivial, bR1.alloc _⟩, bB1.alloc _⟩, hB1.alloc hB1.size _⟩ ⟨W.heap.size, bB1.lt, World.alloc_heap_new W _, rfl⟩
  case body =>
    rintro l pre x a' W hl ⟨r, hr⟩ ⟨⟨⟨rfl, bR1⟩, bB1⟩, hB1⟩ ⟨Bx, hBx, bX, rfl⟩ hlt
    have cR := bR1.cell
    have fR := bR1.frozen
    have cB := bB1.cell
    have fB := bB1.frozen
    have cX : W.cell? ⟨Bx, 2, none⟩ = some (.int .i64 x.f2) := (blk_cell bX 2).trans rfl
    gi_wp2
    exact ⟨((KeepsOthers.setCell _ _ _).trans (KeepsOthers.setCell _ _ _)).from _, ⟨⟨by first | rfl | trivial, by simp⟩, (bR1.set _).other (by omega) _, (bB1.other (by omega) _).set _⟩, (hB1.setCell (p := ⟨w.heap.size, 0, none⟩) (by simp) _).setCell (p := ⟨w.heap.size + 1, 0, none⟩) (by simp) _⟩
  case done =>
    rintro D zs W hD rfl ⟨⟨⟨hp, bR1⟩, bB1⟩, hB1⟩ hK
    have cR := bR1.cell
    have fR := bR1.frozen
    have cB := bB1.cell
    have fB := bB1.frozen
    gi_wp2
    have hK' := ((KeepsOthers.setCell W ⟨w.heap.size, 0, none⟩ (.int .i64 0)).trans (KeepsOthers.setCell _ ⟨w.heap.size + 1, 0, none⟩ (.bool false))).same D _ hK rfl
    refine ⟨by simp, .inl ⟨_, _, rfl, run_takeDeferred hK', ?_⟩⟩
    have hc4 := cell_kept ((bR1.set (.int .i64 0)).other (B' := w.heap.size + 1) (by omega) (.bool false)).cell (grownBy_putObj' _ D (.deferred none)) (fun r e => by cases e; exact ⟨_, hK', rfl⟩)
    have hc5 := cell_kept ((bB1.other (B' := w.heap.size) (by omega) (.int .i64 0)).set (.bool false)).cell (grownBy_putObj' _ D (.deferred none)) (fun r e => by cases e; exact ⟨_, hK', rfl⟩)
    refine ⟨.tuple #[.int .i64 0, .bool false], ?_, by rw [hp]; rfl, ((hB1.setCell (p := ⟨w.heap.size, 0, none⟩) (by simp) _).setCell (p := ⟨w.heap.size + 1, 0, none⟩) (by simp) _).trans (belowK_b (w := w) (Nat.le_refl _) _ D _ _ (by omega) hK' rfl rfl)⟩
    simp [results, Try.f57, go_sem, hc4, hc5]
  case stop =>
    rintro D c pre W hD hpre ⟨⟨⟨rfl, hne⟩, bR1, bB1⟩, hB1⟩ hK
    gi_wp2
    refine ⟨by simp, .inl ⟨_, _, rfl, run_takeDeferred hK, ?_⟩⟩
    have hc4 := cell_kept bR1.cell (grownBy_putObj' _ D (.deferred none)) (fun r e => by cases e; exact ⟨_, hK, rfl⟩)
    have hc5 := cell_kept bB1.cell (grownBy_putObj' _ D (.deferred none)) (fun r e => by cases e; exact ⟨_, hK, rfl⟩)
    refine ⟨.tuple #[.int .i64 (numV pre), .bool true], ?_, ?_, hB1.trans (belowK_b (w := w) (Nat.le_refl _) W D _ _ (by omega) hK rfl rfl)⟩
    · simp [results, Try.f57, go_sem, hc4, hc5]
    · obtain ⟨u, hu⟩ := hpre
      rw [← hu]
      cases pre with
      | nil => exact absurd rfl hne
      | cons y t => rfl
theorem field_Num.calls (A0 : Option Addr) (c0 : Nat) (l0 : List S84) (a1 : Int) (r1 : Int) (r2 : Bool) (w : World) (hr0 : Kd.C k84 w A0 l0.length l0) (hc0 : l0.length ≤ c0) (h : field_Num.f l0 a1 = some (r1, r2)) :
    Calls Try.prog 57 #[.slice A0 l0.length c0, .int .i64 a1] w fun e w' => e = .returned (.tuple #[.int .i64 r1, .bool r2]) ∧ Below w.heap.size w w' := by
  unfold field_Num.f at h
  split at h
  · rename_i hl
    refine callsIn_wide.1 ((num_in Fence.wide 5 trivial trivial trivial rfl (Nat.le_refl _) A0 c0 l0 a1 w hr0 hl).mono ?_)
    rintro e W' ⟨rfl, hb⟩
    refine ⟨?_, hb⟩
    have h := Option.some.inj h
    cases hq : l0.filter (isOf a1 0) with
    | nil => rw [hq] at h; cases h; rfl
    | cons x t => rw [hq] at h; cases h; rfl
  · cases h
end Go.Proofs.Ytjaneipklpgnlaa.Q
end
section
namespace Go.Proofs.Ytjaneipklpgnlaa.Q
open Go Go.RowKit Go.Shelf Go.Proofs.YtjaneipklpgnlaaW.PrintWords Go.Proofs.YtjaneipklpgnlaaW.PrintLast Go.Proofs.YtjaneipklpgnlaaW.PrintMore
attribute [local go_sem] Oper.semAt_some
set_option linter.unusedSimpArgs false
set_option linter.unusedVariables false
def textV : List S84 → ByteArray
  | [] => ⟨#[]⟩
  | x :: _ => x.f3
set_option maxRecDepth 100000 in
set_option maxHeartbeats 4000000 in
theorem text_in (F : Fence) (n : Nat) (h0 : F.fn 58) (h32 : F.fn 65) (h38 : F.fn 71) (hro : F.round = none) (hn : 5 ≤ n) (A : Option Addr) (c : Nat) (xs : List S84) (tag : Int) (w : World) (hr : Kd.C k84 w A xs.length xs) (hlen : xs.length ≤ 1048576) :
    CallsIn F n Try.prog 58 #[.slice A xs.length c, .int .i64 tag] w fun e W' => e = .returned (.tuple #[.string (textV (xs.filter (isOf tag 1))), .bool (decide (xs.filter (isOf tag 1) ≠ []))]) ∧ Below w.heap.size w W' := by
  have h1 : 1 ≤ n := by omega
  refine callsIn_of_wp_marks Try.func58 rfl h0 ?_ hro
  simp only [Try.ntmps58, List.size_toArray, List.length_cons, List.length_nil, Nat.reduceAdd, Nat.reduceSub, Array.replicate_succ, Array.replicate_zero, List.push_toArray, List.append_toArray, List.nil_append, List.cons_append]
  gi_wp2_with (gi_at_call 65; refine (of_in F (n - 1) h32 hro _ _ _ _ _ _).mono ?_; rintro e w' ⟨rfl, rfl⟩)
  obtain ⟨Z, hZ⟩ : ∃ Z, Z = (w.alloc (.cells #[.string ⟨#[]⟩] 9)).alloc (.cells #[.bool false] 4) := ⟨_, rfl⟩
  have bR := Boxed.new w 9 (.string ⟨#[]⟩)
  have bQ := Boxed.new (w.alloc (.cells #[.string ⟨#[]⟩] 9)) 4 (.bool false)
  have bR := bR.alloc (.cells #[.bool false] 4)
  have hB0 : Below w.heap.size w Z := by rw [hZ]; exact ((Below.refl _ w).alloc (Nat.le_refl _) _).alloc (by simp) _
  have hsz : Z.heap.size = w.heap.size + 1 + 1 := by rw [hZ]; simp
  rw [World.size_alloc] at bQ
  rw [← hZ] at bR bQ ⊢
  clear hZ
  have b1 := ((Boxed.new Z 57 (.slice A xs.length c)).alloc (.cells #[.int .i64 tag] 3)).alloc (.cells #[.int .i64 1] 3)
  have b2 := (Boxed.new (Z.alloc (.cells #[.slice A xs.length c] 57)) 3 (.int .i64 tag)).alloc (.cells #[.int .i64 1] 3)
  have b3 := Boxed.new ((Z.alloc (.cells #[.slice A xs.length c] 57)).alloc (.cells #[.int .i64 tag] 3)) 3 (.int .i64 1)
  simp only [World.size_alloc] at b2 b3
  rw [hsz] at b1 b2 b3
  replace hB0 := ((hB0.alloc (by omega) (.cells #[.slice A xs.length c] 57)).alloc (by simp; omega) (.cells #[.int .i64 tag] 3)).alloc (by simp; omega) (.cells #[.int .i64 1] 3)
  replace bR := ((bR.alloc (.cells #[.slice A xs.length c] 57)).alloc (.cells #[.int .i64 tag] 3)).alloc (.cells #[.int .i64 1] 3)
  replace bQ := ((bQ.alloc (.cells #[.slice A xs.length c] 57)).alloc (.cells #[.int .i64 tag] 3)).alloc (.cells #[.int .i64 1] 3)
  have hszW : (((Z.alloc (.cells #[.slice A xs.length c] 57)).alloc (.cells #[.int .i64 tag] 3)).alloc (.cells #[.int .i64 1] 3)).heap.size = w.heap.size + 5 := by simp; omega
  obtain ⟨W0, hW0⟩ : ∃ W0, ((Z.alloc (.cells #[.slice A xs.length c] 57)).alloc (.cells #[.int .i64 tag] 3)).alloc (.cells #[.int .i64 1] 3) = W0 := ⟨_, rfl⟩
  rw [hW0] at b1 b2 b3 bR bQ hB0 hszW ⊢
  clear hW0
  refine wpIn_rangeFunc_ownH hro h1 (gf := 71) (lb := #[.pointer (some ⟨(w.heap.size + 1 + 1), 0, none⟩), .pointer (some ⟨(w.heap.size + 1 + 1) + 1, 0, none⟩), .pointer (some ⟨(w.heap.size + 1 + 1) + 1 + 1, 0, none⟩)]) rfl h38 (enters_of Try.func71 (by kernel_rfl) rfl)
    (of_stops F (n - 1) h38 hro (by omega) (w.heap.size + 1 + 1) A c xs tag 1 w hr hlen W0 hB0 b1 b2 b3) kpOf_t (kpOf_b (by omega)) (Below.refl _ _) (fun _ => rfl)
    (fun pre W => ((pre = [] ∧ Boxed W w.heap.size 9 (.string ⟨#[]⟩)) ∧ Boxed W (w.heap.size + 1) 4 (.bool false)) ∧ Below w.heap.size w W)
    (fun c pre W => ((c = .ret ∧ pre ≠ []) ∧ Boxed W w.heap.size 9 (.string (textV pre)) ∧ Boxed W (w.heap.size + 1) 4 (.bool true)) ∧ Below w.heap.size w W)
    (OwnFrom.and (OwnFrom.and (OwnFrom.and (ownFrom_pure _ _) (Own.from (boxed_own _ _ _) _)) (Own.from (boxed_own _ _ _) _)) (ownFrom_below (Nat.le_refl _) (by omega)))
    (fun c => OwnFrom.and (OwnFrom.and (ownFrom_pure _ _) (OwnFrom.and (Own.from (boxed_own _ _ _) _) (Own.from (boxed_own _ _ _) _))) (ownFrom_below (Nat.le_refl _) (by omega)))
    ⟨⟨⟨rfl, bR⟩, bQ⟩, hB0⟩
    (fun x a' W => ∃ Bx, w.heap.size + 1 < Bx ∧ W.heap[Bx]? = some (.cells #[.int .i64 x.f0, .int .i64 x.f1, .int .i64 x.f2, .string x.f3] 84 (0, 0)) ∧ a' = { tmps := #[.slice A xs.length c, .int .i64 tag, undef, undef, .pointer (some ⟨w.heap.size, 0, none⟩), .pointer (some ⟨w.heap.size + 1, 0, none⟩), .pointer (some ⟨Bx, 0, none⟩), .slice A xs.length c, .int .i64 tag, .func (.func 71) #[] #[.pointer (some ⟨(w.heap.size + 1 + 1), 0, none⟩), .pointer (some ⟨(w.heap.size + 1 + 1) + 1, 0, none⟩), .pointer (some ⟨(w.heap.size + 1 + 1) + 1 + 1, 0, none⟩)], enc84 x, undef, undef], defers := [] })
    (fun x a' _ X Y row hs hg hr => by obtain ⟨Bx, e1, e2, e3⟩ := hs; exact ⟨Bx, e1, (grownBy_keeps_cells hg (fun r e => (hr r e).2) e2 rfl).trans e2, e3⟩)
    ?assign ?body ?done ?stop
  case assign =>
    rintro l pre x W K ⟨⟨⟨rfl, bR1⟩, bB1⟩, hB1⟩ hK
    simp only [enc84] at hK ⊢
    have hu84 := Try.underlying84
    gi_wp2
    exact hK _ _ ((KeepsOthers.alloc _ _).from _) ⟨(Below.refl _ W).alloc hB1.size _, fun k t v _ _ _ hb => hb.alloc _⟩ ⟨⟨⟨by first | rfl | trivial, bR1.alloc _⟩, bB1.alloc _⟩, hB1.alloc hB1.size _⟩ ⟨W.heap.size, bB1.lt, World.alloc_heap_new W _, rfl⟩
  case body =>
    rintro l pre x a' W hl ⟨r, hr⟩ ⟨⟨⟨rfl, bR1⟩, bB1⟩, hB1⟩ ⟨Bx, hBx, bX, rfl⟩ hlt
    have cR := bR1.cell
    have fR := bR1.frozen
    have cB := bB1.cell
    have fB := bB1.frozen
    have cX : W.cell? ⟨Bx, 3, none⟩ = some (.string x.f3) := (blk_cell bX 3).trans rfl
    gi_wp2
    exact ⟨((KeepsOthers.setCell _ _ _).trans (KeepsOthers.setCell _ _ _)).from _, ⟨⟨by first | rfl | trivial, by simp⟩, (bR1.set _).other (by omega) _, (bB1.other (by omega) _).set _⟩, (hB1.setCell (p := ⟨w.heap.size, 0, none⟩) (by simp) _).setCell (p := ⟨w.heap.size + 1, 0, none⟩) (by simp) _⟩
  case done =>
    rintro D zs W hD rfl ⟨⟨⟨hp, bR1⟩, bB1⟩, hB1⟩ hK
    have cR := bR1.cell
    have fR := bR1.frozen
    have cB := bB1.cell
    have fB := bB1.frozen
    gi_wp2
    have hK' := ((KeepsOthers.setCell W ⟨w.heap.size, 0, none⟩ (.string ⟨#[]⟩)).trans (KeepsOthers.setCell _ ⟨w.heap.size + 1, 0, none⟩ (.bool false))).same D _ hK rfl
    refine ⟨by simp, .inl ⟨_, _, rfl, run_takeDeferred hK', ?_⟩⟩
    have hc4 := cell_kept ((bR1.set (.string ⟨#[]⟩)).other (B' := w.heap.size + 1) (by omega) (.bool false)).cell (grownBy_putObj' _ D (.deferred none)) (fun r e => by cases e; exact ⟨_, hK', rfl⟩)
    have hc5 := cell_kept ((bB1.other (B' := w.heap.size) (by omega) (.string ⟨#[]⟩)).set (.bool false)).cell (grownBy_putObj' _ D (.deferred none)) (fun r e => by cases e; exact ⟨_, hK', rfl⟩)
    refine ⟨.tuple #[.string ⟨#[]⟩, .bool false], ?_, by rw [hp]; rfl, ((hB1.setCell (p := ⟨w.heap.size, 0, none⟩) (by simp) _).setCell (p := ⟨w.heap.size + 1, 0, none⟩) (by simp) _).trans (belowK_b (w := w) (Nat.le_refl _) _ D _ _ (by omega) hK' rfl rfl)⟩
    simp [results, Try.f58, go_sem, hc4, hc5]
  case stop =>
    rintro D c pre W hD hpre ⟨⟨⟨rfl, hne⟩, bR1, bB1⟩, hB1⟩ hK
    gi_wp2
    refine ⟨by simp, .inl ⟨_, _, rfl, run_takeDeferred hK, ?_⟩⟩
    have hc4 := cell_kept bR1.cell (grownBy_putObj' _ D (.deferred none)) (fun r e => by cases e; exact ⟨_, hK, rfl⟩)
    have hc5 := cell_kept bB1.cell (grownBy_putObj' _ D (.deferred none)) (fun r e => by cases e; exact ⟨_, hK, rfl⟩)
    refine ⟨.tuple #[.string (textV pre), .bool true], ?_, ?_, hB1.trans (belowK_b (w := w) (Nat.le_refl _) W D _ _ (by omega) hK rfl rfl)⟩
    · simp [results, Try.f58, go_sem, hc4, hc5]
    · obtain ⟨u, hu⟩ := hpre
      rw [← hu]
      cases pre with
      | nil => exact absurd rfl hne
      | cons y t => rfl
theorem field_Text.calls (A0 : Option Addr) (c0 : Nat) (l0 : List S84) (a1 : Int) (r1 : ByteArray) (r2 : Bool) (w : World) (hr0 : Kd.C k84 w A0 l0.length l0) (hc0 : l0.length ≤ c0) (h : field_Text.f l0 a1 = some (r1, r2)) :
    Calls Try.prog 58 #[.slice A0 l0.length c0, .int .i64 a1] w fun e w' => e = .returned (.tuple #[.string r1, .bool r2]) ∧ Below w.heap.size w w' := by
  unfold field_Text.f at h
  split at h
  · rename_i hl
    refine callsIn_wide.1 ((text_in Fence.wide 5 trivial trivial trivial rfl (Nat.le_refl _) A0 c0 l0 a1 w hr0 hl).mono ?_)
    rintro e W' ⟨rfl, hb⟩
    refine ⟨?_, hb⟩
    have h := Option.some.inj h
    cases hq : l0.filter (isOf a1 1) with
    | nil => rw [hq] at h; cases h; rfl
    | cons x t => rw [hq] at h; cases h; rfl
  · cases h
end Go.Proofs.Ytjaneipklpgnlaa.Q
end
section
namespace Go.Proofs.Ytjaneipklpgnlaa.Q
open Go Go.RowKit Go.Shelf Go.Proofs.YtjaneipklpgnlaaW.PrintWords Go.Proofs.YtjaneipklpgnlaaW.PrintLast Go.Proofs.YtjaneipklpgnlaaW.PrintMore
attribute [local go_sem] Oper.semAt_some
set_option linter.unusedSimpArgs false
set_option linter.unusedVariables false
def strF (x : S84) : Value := .string x.f3
set_option maxRecDepth 100000 in
set_option maxHeartbeats 4000000 in
theorem texts_in (F : Fence) (n : Nat) (h0 : F.fn 46) (h32 : F.fn 65) (h38 : F.fn 71) (hro : F.round = none) (hn : 5 ≤ n) (A : Option Addr) (c : Nat) (xs : List S84) (tag : Int) (w : World) (hr : Kd.C k84 w A xs.length xs) (hlen : xs.length ≤ 1048576) :
    CallsIn F n Try.prog 46 #[.slice A xs.length c, .int .i64 tag] w fun e W' => ∃ v, e = .returned v ∧ W'.ownsRow w.heap.size 9 1 v (xs.filter (isOf tag 1)).length ((xs.filter (isOf tag 1)).map strF) ∧ Below w.heap.size w W' := by
  have h1 : 1 ≤ n := by omega
  obtain ⟨i0, hi, hz0, hz1, hz2⟩ := info_parts info9
  refine callsIn_of_wp_marks Try.func46 rfl h0 ?_ hro
  simp only [Try.ntmps46, List.size_toArray, List.length_cons, List.length_nil, Nat.reduceAdd, Nat.reduceSub, Array.replicate_succ, Array.replicate_zero, List.push_toArray, List.append_toArray, List.nil_append, List.cons_append]
  gi_wp2_with (gi_at_call 65; refine (of_in F (n - 1) h32 hro _ _ _ _ _ _).mono ?_; rintro e w' ⟨rfl, rfl⟩)
  obtain ⟨Z, hZ⟩ : ∃ Z, Z = w.alloc (.cells #[.slice none 0 0] 86) := ⟨_, rfl⟩
  have bO := Boxed.new w 86 (.slice none 0 0)
  have hB0 : Below w.heap.size w Z := by rw [hZ]; exact (Below.refl _ w).alloc (Nat.le_refl _) _
  have hsz : Z.heap.size = w.heap.size + 1 := by rw [hZ]; simp
  rw [← hZ] at bO ⊢
  clear hZ
  have b1 := ((Boxed.new Z 57 (.slice A xs.length c)).alloc (.cells #[.int .i64 tag] 3)).alloc (.cells #[.int .i64 1] 3)
  have b2 := (Boxed.new (Z.alloc (.cells #[.slice A xs.length c] 57)) 3 (.int .i64 tag)).alloc (.cells #[.int .i64 1] 3)
  have b3 := Boxed.new ((Z.alloc (.cells #[.slice A xs.length c] 57)).alloc (.cells #[.int .i64 tag] 3)) 3 (.int .i64 1)
  simp only [World.size_alloc] at b2 b3
  rw [hsz] at b1 b2 b3
  replace hB0 := ((hB0.alloc (by omega) (.cells #[.slice A xs.length c] 57)).alloc (by simp; omega) (.cells #[.int .i64 tag] 3)).alloc (by simp; omega) (.cells #[.int .i64 1] 3)
  replace bO := ((bO.alloc (.cells #[.slice A xs.length c] 57)).alloc (.cells #[.int .i64 tag] 3)).alloc (.cells #[.int .i64 1] 3)
  have hszW : (((Z.alloc (.cells #[.slice A xs.length c] 57)).alloc (.cells #[.int .i64 tag] 3)).alloc (.cells #[.int .i64 1] 3)).heap.size = w.heap.size + 4 := by simp; omega
  obtain ⟨W0, hW0⟩ : ∃ W0, ((Z.alloc (.cells #[.slice A xs.length c] 57)).alloc (.cells #[.int .i64 tag] 3)).alloc (.cells #[.int .i64 1] 3) = W0 := ⟨_, rfl⟩
  rw [hW0] at b1 b2 b3 bO hB0 hszW ⊢
  clear hW0
  refine wpIn_rangeFunc_ownH hro h1 (gf := 71) (lb := #[.pointer (some ⟨w.heap.size + 1, 0, none⟩), .pointer (some ⟨w.heap.size + 1 + 1, 0, none⟩), .pointer (some ⟨w.heap.size + 1 + 1 + 1, 0, none⟩)]) rfl h38 (enters_of Try.func71 (by kernel_rfl) rfl)
    (of_stops F (n - 1) h38 hro (by omega) (w.heap.size + 1) A c xs tag 1 w hr hlen W0 hB0 b1 b2 b3) kpOf_t (kpOf_b (by omega)) (Below.refl _ _) (fun _ => rfl)
    (fun pre W => (∃ v, Boxed W w.heap.size 86 v ∧ W.ownsRow w.heap.size 9 1 v pre.length (pre.map strF) ∧ True) ∧ Below w.heap.size w W)
    (fun c pre W => False)
    (OwnFrom.and (Own.from (holdsRow_own w.heap.size w.heap.size 86 9 1 (fun pre : List S84 => pre.length) (fun pre : List S84 => pre.map strF) (fun _ _ => True)) _) (ownFrom_below (Nat.le_refl _) (by omega)))
    (fun _ _ _ _ _ hs _ _ => hs)
    ⟨⟨_, bO, World.ownsRow_nil _ _ _ _, trivial⟩, hB0⟩
    (fun x a' W => ∃ Bx, w.heap.size < Bx ∧ W.heap[Bx]? = some (.cells #[.int .i64 x.f0, .int .i64 x.f1, .int .i64 x.f2, .string x.f3] 84 (0, 0)) ∧ a' = { tmps := #[.slice A xs.length c, .int .i64 tag, undef, undef, .slice none 0 0, .pointer (some ⟨w.heap.size, 0, none⟩), .pointer (some ⟨Bx, 0, none⟩), .slice A xs.length c, .int .i64 tag, .func (.func 71) #[] #[.pointer (some ⟨w.heap.size + 1, 0, none⟩), .pointer (some ⟨w.heap.size + 1 + 1, 0, none⟩), .pointer (some ⟨w.heap.size + 1 + 1 + 1, 0, none⟩)], enc84 x, undef, undef, undef, undef, undef, undef], defers := [] })
    (fun x a' _ X Y row hs hg hr => by obtain ⟨Bx, e1, e2, e3⟩ := hs; exact ⟨Bx, e1, (grownBy_keeps_cells hg (fun r e => (hr r e).2) e2 rfl).trans e2, e3⟩)
    ?assign ?body ?done ?stop
  case assign =>
    rintro l pre x W K ⟨⟨v, bO1, hrow, _⟩, hB1⟩ hK
    simp only [enc84] at hK ⊢
    have hu84 := Try.underlying84
    gi_wp2
    exact hK _ _ ((KeepsOthers.alloc _ _).from _) ⟨(Below.refl _ W).alloc hB1.size _, fun k t v _ _ _ hb => hb.alloc _⟩ ⟨⟨v, bO1.alloc _, hrow.alloc _, trivial⟩, hB1.alloc hB1.size _⟩ ⟨W.heap.size, bO1.lt, World.alloc_heap_new W _, rfl⟩
  case body =>
    rintro l pre x a' W hl ⟨r, hr⟩ ⟨⟨v, hv, hrow, _⟩, hB⟩ ⟨Bx, hBx, bX, rfl⟩ hlt
    have hml : pre.length + 1 ≤ maxLen := by unfold maxLen; omega
    have hc := hv.cell
    have cX : W.cell? ⟨Bx, 3, none⟩ = some (.string x.f3) := (blk_cell bX 3).trans rfl
    gi_wp2_with (gi_at_builtin; refine wpListIn_append_own _ rfl _ _ 86 rfl w.heap.size 9 i0 (.string ⟨#[]⟩) 1 16 Try.underlying86 hi hz0 hz1 hz2 rfl (by decide) _ _ _ rfl (hrow.alloc _) ⟨W.heap.size, 0, none⟩ 1 1 [.string x.f3] rfl rfl (cell_one_new _ _ _) (by simp [Value.oneCell']) (by omega) (by omega) (by have := hB.size; simp; omega) ?_; intro v' w1 hown' hgrow _; obtain ⟨g', cap', rfl⟩ := ownsRow_succ hown'; obtain ⟨hv1, hv2, hr2, hk2, hb2⟩ := hv.appended (by decide) hrow hB.size (Nat.le_refl _) hown' hgrow; have hc1 := hv1.cell; have hf1 := hv1.frozen)
    refine ⟨hk2.from _, ⟨hb2, fun k t u ht h1 h2 hb => ?_⟩, ⟨_, hv2, by simpa [strF] using hr2, trivial⟩, hB.trans hb2⟩
    exact ((hb.alloc _).kept hgrow (hb.not_row (by rcases ht with rfl | rfl <;> decide) hrow)).other (by omega) _
  case done =>
    rintro D ys W hD rfl ⟨⟨v, hv, hrow, _⟩, hB⟩ hK
    have hc := hv.cell
    gi_wp2
    refine ⟨by simp, .inl ⟨_, _, rfl, run_takeDeferred hK, ?_⟩⟩
    exact ⟨_, results_tmp rfl _ _ _, v, rfl, ownsRow_putObj hrow _ hK rfl, hB.trans (belowK_b (w := w) (Nat.le_refl _) W D _ _ (by omega) hK rfl rfl)⟩
  case stop =>
    rintro D c pre W _ _ h _
    exact h.elim
theorem field_Texts.calls (A0 : Option Addr) (c0 : Nat) (l0 : List S84) (a1 : Int) (r : List ByteArray) (w : World) (hr0 : Kd.C k84 w A0 l0.length l0) (hc0 : l0.length ≤ c0) (h : field_Texts.f l0 a1 = some r) :
    Calls Try.prog 46 #[.slice A0 l0.length c0, .int .i64 a1] w fun e w' => ∃ v0_ : Value, e = .returned (v0_) ∧ Kd.R Kd.string 9 w' w.heap.size (fun _ => True) v0_ r ∧ Below w.heap.size w w' := by
  unfold field_Texts.f at h
  split at h
  · rename_i hl
    have h := Option.some.inj h
    subst h
    refine callsIn_wide.1 ((texts_in Fence.wide 5 trivial trivial trivial rfl (Nat.le_refl _) A0 c0 l0 a1 w hr0 hl).mono ?_)
    rintro e W' ⟨v, rfl, ho, hb⟩
    refine ⟨v, rfl, ?_, hb⟩
    have hm : (l0.filter (isOf a1 1)).map strF = ((l0.filter (isOf a1 1)).map (·.f3)).map Value.string := by simp [strF]
    rw [hm] at ho
    have hle : (l0.filter (isOf a1 1)).length = ((l0.filter (isOf a1 1)).map (·.f3)).length := by simp
    rw [hle] at ho
    exact Kd.R_of_own ho (fun _ _ => trivial)
  · cases h
end Go.Proofs.Ytjaneipklpgnlaa.Q
end

namespace Go.Proofs.Ytjaneipklpgnlaa.Q
open Go.RowKit Go.Proofs.YtjaneipklpgnlaaW.PrintWords Go.Proofs.YtjaneipklpgnlaaW.PrintLast Go.Proofs.YtjaneipklpgnlaaW.PrintMore Go.Proofs.YtjaneipklpgnlaaK
attribute [local go_sem] max2_int min2_int max_two min_two max_three min_three max_four min_four   -- for this text's walks alone
attribute [local go_sem ↓] Go.Proofs.YtjaneipklpgnlaaK.isSome_setCell
set_option linter.unusedVariables false
set_option linter.unusedSimpArgs false

/-! ### talk_reader_num: function 34 -/
def talk_reader_num.f (l0 : List (S84)) (a1 : Int) : Option (Int) := (field_Num.f l0 a1).bind fun bt354 => (some bt354.1)
set_option maxHeartbeats 8000000 in
set_option maxRecDepth 100000 in
theorem talk_reader_num.calls (A0 : Option Addr) (c0 : Nat) (l0 : List (S84)) (a1 : Int) (r : Int) (w : World) (hr0 : Kd.C k84 w A0 l0.length l0) (hc0 : l0.length ≤ c0) (h : talk_reader_num.f l0 a1 = some r) :
    Calls Try.prog 34 #[.slice A0 l0.length c0, .int .i64 a1] w fun e w' => e = .returned (.int .i64 r) ∧ Below w.heap.size w w' := by
  have HR0 := Aside0.mk hr0
  have HC0 := Aside0.mk hc0
  clear hr0 hc0
  have HB := Aside0.mk (Below.refl w.heap.size w)
  have H : ((field_Num.f l0 a1).bind fun bt354 => (some bt354.1)) = some r := h
  clear h
  replace H := Option.bind_eq_some_iff.mp H
  obtain ⟨⟨t354, t355⟩, A30, H⟩ := H
  replace H : (some t354) = some r := H
  have A3 := Aside0.mk A30
  clear A30
  obtain rfl := Option.some.inj H
  go_enter Try.func34, Try.ntmps34
  go_wp2_with (first | ((with_reducible refine gate_callee (f := 57) rfl ?_); refine goesL_ (some 10) rfl rfl Try.func57 (by kernel_rfl) rfl #[.slice A0 l0.length c0, .int .i64 a1] rfl (by (try simp only [List.map_toArray, List.map_cons, List.map_nil]); first | done | rfl | (simp only [List.length_drop, List.length_take]; rfl)) ?_; (with_reducible refine (field_Num.calls _ _ l0 a1 t354 t355 _ ?side1 ?side2 A3.out).mono ?_); (case side1 => exact CU HR0.out); (case side2 => exact HC0.out); rintro e w4 ⟨rfl, hb⟩; refine ⟨_, rfl, ?_⟩; have n0_ := Aside0.mk (below_step (belU HB.out) hb); clear HB; have HB := n0_; clear n0_; (try clear hb); (try clear hb2); (try clear hk); (try clear hi)))
  go_ret
  exact ⟨by first | rfl | (simp [errW_none, errW_some] <;> rfl) | (simp [*, errW_none, errW_some] <;> rfl), belU HB.out⟩

end Go.Proofs.Ytjaneipklpgnlaa.Q

namespace Go.Proofs.Ytjaneipklpgnlaa.Q
open Go.RowKit Go.Proofs.YtjaneipklpgnlaaW.PrintWords Go.Proofs.YtjaneipklpgnlaaW.PrintLast Go.Proofs.YtjaneipklpgnlaaW.PrintMore Go.Proofs.YtjaneipklpgnlaaK
attribute [local go_sem] max2_int min2_int max_two min_two max_three min_three max_four min_four   -- for this text's walks alone
attribute [local go_sem ↓] Go.Proofs.YtjaneipklpgnlaaK.isSome_setCell
set_option linter.unusedVariables false
set_option linter.unusedSimpArgs false

/-! ### talk_reader_text: function 35 -/
def talk_reader_text.f (l0 : List (S84)) (a1 : Int) : Option (ByteArray) := (field_Text.f l0 a1).bind fun bt356 => (some bt356.1)
set_option maxHeartbeats 8000000 in
set_option maxRecDepth 100000 in
theorem talk_reader_text.calls (A0 : Option Addr) (c0 : Nat) (l0 : List (S84)) (a1 : Int) (r : ByteArray) (w : World) (hr0 : Kd.C k84 w A0 l0.length l0) (hc0 : l0.length ≤ c0) (h : talk_reader_text.f l0 a1 = some r) :
    Calls Try.prog 35 #[.slice A0 l0.length c0, .int .i64 a1] w fun e w' => e = .returned (.string r) ∧ Below w.heap.size w w' := by
  have HR0 := Aside0.mk hr0
  have HC0 := Aside0.mk hc0
  clear hr0 hc0
  have HB := Aside0.mk (Below.refl w.heap.size w)
  have H : ((field_Text.f l0 a1).bind fun bt356 => (some bt356.1)) = some r := h
  clear h
  replace H := Option.bind_eq_some_iff.mp H
  obtain ⟨⟨t356, t357⟩, A30, H⟩ := H
  replace H : (some t356) = some r := H
  have A3 := Aside0.mk A30
  clear A30
  obtain rfl := Option.some.inj H
  go_enter Try.func35, Try.ntmps35
  go_wp2_with (first | ((with_reducible refine gate_callee (f := 58) rfl ?_); refine goesL_ (some 10) rfl rfl Try.func58 (by kernel_rfl) rfl #[.slice A0 l0.length c0, .int .i64 a1] rfl (by (try simp only [List.map_toArray, List.map_cons, List.map_nil]); first | done | rfl | (simp only [List.length_drop, List.length_take]; rfl)) ?_; (with_reducible refine (field_Text.calls _ _ l0 a1 t356 t357 _ ?side1 ?side2 A3.out).mono ?_); (case side1 => exact CU HR0.out); (case side2 => exact HC0.out); rintro e w4 ⟨rfl, hb⟩; refine ⟨_, rfl, ?_⟩; have n0_ := Aside0.mk (below_step (belU HB.out) hb); clear HB; have HB := n0_; clear n0_; (try clear hb); (try clear hb2); (try clear hk); (try clear hi)))
  go_ret
  exact ⟨by first | rfl | (simp [errW_none, errW_some] <;> rfl) | (simp [*, errW_none, errW_some] <;> rfl), belU HB.out⟩

end Go.Proofs.Ytjaneipklpgnlaa.Q

namespace Go.Proofs.Ytjaneipklpgnlaa.Q
open Go.RowKit Go.Proofs.YtjaneipklpgnlaaW.PrintWords Go.Proofs.YtjaneipklpgnlaaW.PrintLast Go.Proofs.YtjaneipklpgnlaaW.PrintMore Go.Proofs.YtjaneipklpgnlaaK
attribute [local go_sem] max2_int min2_int max_two min_two max_three min_three max_four min_four   -- for this text's walks alone
attribute [local go_sem ↓] Go.Proofs.YtjaneipklpgnlaaK.isSome_setCell
set_option linter.unusedVariables false
set_option linter.unusedSimpArgs false

/-! ### talk_ReadRequest_1: function 33 -/
def talk_ReadRequest_1.f (l0 : List (S84)) : Option (Int × Int × Int × Int × Int × Int × ByteArray × ByteArray) := (talk_reader_num.f l0 1).bind fun t359 => ((talk_reader_num.f l0 2).bind fun t360 => ((talk_reader_num.f l0 3).bind fun t361 => ((talk_reader_num.f l0 4).bind fun t362 => ((talk_reader_num.f l0 5).bind fun t363 => ((talk_reader_num.f l0 6).bind fun t364 => ((talk_reader_text.f l0 7).bind fun t365 => ((talk_reader_text.f l0 8).bind fun t366 => (some (t359, t360, t361, t362, t363, t364, t365, t366)))))))))
set_option maxHeartbeats 8000000 in
set_option maxRecDepth 100000 in
theorem talk_ReadRequest_1.calls (A0 : Option Addr) (c0 : Nat) (l0 : List (S84)) (r1 : Int) (r2 : Int) (r3 : Int) (r4 : Int) (r5 : Int) (r6 : Int) (r7 : ByteArray) (r8 : ByteArray) (w : World) (hr0 : Kd.C k84 w A0 l0.length l0) (hc0 : l0.length ≤ c0) (h : talk_ReadRequest_1.f l0 = some (r1, r2, r3, r4, r5, r6, r7, r8)) :
    Calls Try.prog 33 #[.slice A0 l0.length c0] w fun e w' => e = .returned (.agg #[.int .i64 r1, .int .i64 r2, .int .i64 r3, .int .i64 r4, .int .i64 r5, .int .i64 r6, .string r7, .string r8]) ∧ Below w.heap.size w w' := by
  have hu23 := Try.underlying23
  have HR0 := Aside0.mk hr0
  have HC0 := Aside0.mk hc0
  clear hr0 hc0
  have HB := Aside0.mk (Below.refl w.heap.size w)
  have H : ((talk_reader_num.f l0 1).bind fun t359 => ((talk_reader_num.f l0 2).bind fun t360 => ((talk_reader_num.f l0 3).bind fun t361 => ((talk_reader_num.f l0 4).bind fun t362 => ((talk_reader_num.f l0 5).bind fun t363 => ((talk_reader_num.f l0 6).bind fun t364 => ((talk_reader_text.f l0 7).bind fun t365 => ((talk_reader_text.f l0 8).bind fun t366 => (some (t359, t360, t361, t362, t363, t364, t365, t366)))))))))) = some (r1, r2, r3, r4, r5, r6, r7, r8) := h
  clear h
  replace H := Option.bind_eq_some_iff.mp H
  obtain ⟨t359, A20, H⟩ := H
  replace H : ((talk_reader_num.f l0 2).bind fun t360 => ((talk_reader_num.f l0 3).bind fun t361 => ((talk_reader_num.f l0 4).bind fun t362 => ((talk_reader_num.f l0 5).bind fun t363 => ((talk_reader_num.f l0 6).bind fun t364 => ((talk_reader_text.f l0 7).bind fun t365 => ((talk_reader_text.f l0 8).bind fun t366 => (some (t359, t360, t361, t362, t363, t364, t365, t366))))))))) = some (r1, r2, r3, r4, r5, r6, r7, r8) := H
  have A2 := Aside0.mk A20
  clear A20
  replace H := Option.bind_eq_some_iff.mp H
  obtain ⟨t360, A30, H⟩ := H
  replace H : ((talk_reader_num.f l0 3).bind fun t361 => ((talk_reader_num.f l0 4).bind fun t362 => ((talk_reader_num.f l0 5).bind fun t363 => ((talk_reader_num.f l0 6).bind fun t364 => ((talk_reader_text.f l0 7).bind fun t365 => ((talk_reader_text.f l0 8).bind fun t366 => (some (t359, t360, t361, t362, t363, t364, t365, t366)))))))) = some (r1, r2, r3, r4, r5, r6, r7, r8) := H
  have A3 := Aside0.mk A30
  clear A30
  replace H := Option.bind_eq_some_iff.mp H
  obtain ⟨t361, A40, H⟩ := H
  replace H : ((talk_reader_num.f l0 4).bind fun t362 => ((talk_reader_num.f l0 5).bind fun t363 => ((talk_reader_num.f l0 6).bind fun t364 => ((talk_reader_text.f l0 7).bind fun t365 => ((talk_reader_text.f l0 8).bind fun t366 => (some (t359, t360, t361, t362, t363, t364, t365, t366))))))) = some (r1, r2, r3, r4, r5, r6, r7, r8) := H
  have A4 := Aside0.mk A40
  clear A40
  replace H := Option.bind_eq_some_iff.mp H
  obtain ⟨t362, A50, H⟩ := H
  replace H : ((talk_reader_num.f l0 5).bind fun t363 => ((talk_reader_num.f l0 6).bind fun t364 => ((talk_reader_text.f l0 7).bind fun t365 => ((talk_reader_text.f l0 8).bind fun t366 => (some (t359, t360, t361, t362, t363, t364, t365, t366)))))) = some (r1, r2, r3, r4, r5, r6, r7, r8) := H
  have A5 := Aside0.mk A50
  clear A50
  replace H := Option.bind_eq_some_iff.mp H
  obtain ⟨t363, A60, H⟩ := H
  replace H : ((talk_reader_num.f l0 6).bind fun t364 => ((talk_reader_text.f l0 7).bind fun t365 => ((talk_reader_text.f l0 8).bind fun t366 => (some (t359, t360, t361, t362, t363, t364, t365, t366))))) = some (r1, r2, r3, r4, r5, r6, r7, r8) := H
  have A6 := Aside0.mk A60
  clear A60
  replace H := Option.bind_eq_some_iff.mp H
  obtain ⟨t364, A70, H⟩ := H
  replace H : ((talk_reader_text.f l0 7).bind fun t365 => ((talk_reader_text.f l0 8).bind fun t366 => (some (t359, t360, t361, t362, t363, t364, t365, t366)))) = some (r1, r2, r3, r4, r5, r6, r7, r8) := H
  have A7 := Aside0.mk A70
  clear A70
  replace H := Option.bind_eq_some_iff.mp H
  obtain ⟨t365, A80, H⟩ := H
  replace H : ((talk_reader_text.f l0 8).bind fun t366 => (some (t359, t360, t361, t362, t363, t364, t365, t366))) = some (r1, r2, r3, r4, r5, r6, r7, r8) := H
  have A8 := Aside0.mk A80
  clear A80
  replace H := Option.bind_eq_some_iff.mp H
  obtain ⟨t366, A90, H⟩ := H
  replace H : (some (t359, t360, t361, t362, t363, t364, t365, t366)) = some (r1, r2, r3, r4, r5, r6, r7, r8) := H
  have A9 := Aside0.mk A90
  clear A90
  simp only [Option.some.injEq, Prod.mk.injEq] at H
  obtain ⟨rfl, rfl, rfl, rfl, rfl, rfl, rfl, rfl⟩ := H
  go_enter Try.func33, Try.ntmps33
  go_wp2_with (first | ((with_reducible refine gate_dst (N := 2) rfl ?_); refine box_event ?hg (N := 2) ?hd (cs := #[.int .i64 0, .int .i64 0, .int .i64 0, .int .i64 0, .int .i64 0, .int .i64 0, .string (⟨#[]⟩ : ByteArray), .string (⟨#[]⟩ : ByteArray)]) (t := 23) ?hr ?_; (case hd => rfl); (case hg => rfl); (case hr => first | (go_simp; done) | (go_simp; rfl)); intro gb358 hg w10 hbox hb; have n0_ := Aside0.mk (below_step (belU HB.out) hb); have n1_ := Aside0.mk (hbox); have n2_ := Aside0.mk ((by rw [hg]; exact (sizU HB.out) : w.heap.size ≤ gb358)); have n3_ := Aside0.mk ((by rw [hg]; exact (sizU HB.out) : w.heap.size ≤ gb358)); clear HB; have HB := n0_; have BK358 := n1_; have GW358 := n2_; have GE358 := n3_; clear n0_ n1_ n2_ n3_; clear hb hbox hg) | ((with_reducible refine gate_callee (f := 34) rfl ?_); refine goesL_ (some 4) rfl rfl Try.func34 (by kernel_rfl) rfl #[.slice A0 l0.length c0, .int .i64 1] rfl (by (try simp only [List.map_toArray, List.map_cons, List.map_nil]); first | done | rfl | (simp only [List.length_drop, List.length_take]; rfl)) ?_; (with_reducible refine (talk_reader_num.calls _ _ l0 1 t359 _ ?side1 ?side2 A2.out).mono ?_); (case side1 => exact CU (Kd.C_below HR0.out HB.out)); (case side2 => exact HC0.out); rintro e w11 ⟨rfl, hb⟩; refine ⟨_, rfl, ?_⟩; have n0_ := Aside0.mk (blk_below (blkU BK358.out) hb); have n1_ := Aside0.mk (below_step (belG HB.out GE358.out) hb); clear BK358; clear HB; have BK358 := n0_; have HB := n1_; clear n0_ n1_; (try clear hb); (try clear hb2); (try clear hk); (try clear hi)) | ((with_reducible refine gate_callee (f := 34) rfl ?_); refine goesL_ (some 6) rfl rfl Try.func34 (by kernel_rfl) rfl #[.slice A0 l0.length c0, .int .i64 2] rfl (by (try simp only [List.map_toArray, List.map_cons, List.map_nil]); first | done | rfl | (simp only [List.length_drop, List.length_take]; rfl)) ?_; (with_reducible refine (talk_reader_num.calls _ _ l0 2 t360 _ ?side1 ?side2 A3.out).mono ?_); (case side1 => exact CU (Kd.C_below HR0.out HB.out)); (case side2 => exact HC0.out); rintro e w12 ⟨rfl, hb⟩; refine ⟨_, rfl, ?_⟩; have n0_ := Aside0.mk (blk_below (blkU BK358.out) hb); have n1_ := Aside0.mk (below_step (belG HB.out GE358.out) hb); clear BK358; clear HB; have BK358 := n0_; have HB := n1_; clear n0_ n1_; (try clear hb); (try clear hb2); (try clear hk); (try clear hi)) | ((with_reducible refine gate_callee (f := 34) rfl ?_); refine goesL_ (some 8) rfl rfl Try.func34 (by kernel_rfl) rfl #[.slice A0 l0.length c0, .int .i64 3] rfl (by (try simp only [List.map_toArray, List.map_cons, List.map_nil]); first | done | rfl | (simp only [List.length_drop, List.length_take]; rfl)) ?_; (with_reducible refine (talk_reader_num.calls _ _ l0 3 t361 _ ?side1 ?side2 A4.out).mono ?_); (case side1 => exact CU (Kd.C_below HR0.out HB.out)); (case side2 => exact HC0.out); rintro e w13 ⟨rfl, hb⟩; refine ⟨_, rfl, ?_⟩; have n0_ := Aside0.mk (blk_below (blkU BK358.out) hb); have n1_ := Aside0.mk (below_step (belG HB.out GE358.out) hb); clear BK358; clear HB; have BK358 := n0_; have HB := n1_; clear n0_ n1_; (try clear hb); (try clear hb2); (try clear hk); (try clear hi)) | ((with_reducible refine gate_callee (f := 34) rfl ?_); refine goesL_ (some 10) rfl rfl Try.func34 (by kernel_rfl) rfl #[.slice A0 l0.length c0, .int .i64 4] rfl (by (try simp only [List.map_toArray, List.map_cons, List.map_nil]); first | done | rfl | (simp only [List.length_drop, List.length_take]; rfl)) ?_; (with_reducible refine (talk_reader_num.calls _ _ l0 4 t362 _ ?side1 ?side2 A5.out).mono ?_); (case side1 => exact CU (Kd.C_below HR0.out HB.out)); (case side2 => exact HC0.out); rintro e w14 ⟨rfl, hb⟩; refine ⟨_, rfl, ?_⟩; have n0_ := Aside0.mk (blk_below (blkU BK358.out) hb); have n1_ := Aside0.mk (below_step (belG HB.out GE358.out) hb); clear BK358; clear HB; have BK358 := n0_; have HB := n1_; clear n0_ n1_; (try clear hb); (try clear hb2); (try clear hk); (try clear hi)) | ((with_reducible refine gate_callee (f := 34) rfl ?_); refine goesL_ (some 12) rfl rfl Try.func34 (by kernel_rfl) rfl #[.slice A0 l0.length c0, .int .i64 5] rfl (by (try simp only [List.map_toArray, List.map_cons, List.map_nil]); first | done | rfl | (simp only [List.length_drop, List.length_take]; rfl)) ?_; (with_reducible refine (talk_reader_num.calls _ _ l0 5 t363 _ ?side1 ?side2 A6.out).mono ?_); (case side1 => exact CU (Kd.C_below HR0.out HB.out)); (case side2 => exact HC0.out); rintro e w15 ⟨rfl, hb⟩; refine ⟨_, rfl, ?_⟩; have n0_ := Aside0.mk (blk_below (blkU BK358.out) hb); have n1_ := Aside0.mk (below_step (belG HB.out GE358.out) hb); clear BK358; clear HB; have BK358 := n0_; have HB := n1_; clear n0_ n1_; (try clear hb); (try clear hb2); (try clear hk); (try clear hi)) | ((with_reducible refine gate_callee (f := 34) rfl ?_); refine goesL_ (some 14) rfl rfl Try.func34 (by kernel_rfl) rfl #[.slice A0 l0.length c0, .int .i64 6] rfl (by (try simp only [List.map_toArray, List.map_cons, List.map_nil]); first | done | rfl | (simp only [List.length_drop, List.length_take]; rfl)) ?_; (with_reducible refine (talk_reader_num.calls _ _ l0 6 t364 _ ?side1 ?side2 A7.out).mono ?_); (case side1 => exact CU (Kd.C_below HR0.out HB.out)); (case side2 => exact HC0.out); rintro e w16 ⟨rfl, hb⟩; refine ⟨_, rfl, ?_⟩; have n0_ := Aside0.mk (blk_below (blkU BK358.out) hb); have n1_ := Aside0.mk (below_step (belG HB.out GE358.out) hb); clear BK358; clear HB; have BK358 := n0_; have HB := n1_; clear n0_ n1_; (try clear hb); (try clear hb2); (try clear hk); (try clear hi)) | ((with_reducible refine gate_callee (f := 35) rfl ?_); refine goesL_ (some 16) rfl rfl Try.func35 (by kernel_rfl) rfl #[.slice A0 l0.length c0, .int .i64 7] rfl (by (try simp only [List.map_toArray, List.map_cons, List.map_nil]); first | done | rfl | (simp only [List.length_drop, List.length_take]; rfl)) ?_; (with_reducible refine (talk_reader_text.calls _ _ l0 7 t365 _ ?side1 ?side2 A8.out).mono ?_); (case side1 => exact CU (Kd.C_below HR0.out HB.out)); (case side2 => exact HC0.out); rintro e w17 ⟨rfl, hb⟩; refine ⟨_, rfl, ?_⟩; have n0_ := Aside0.mk (blk_below (blkU BK358.out) hb); have n1_ := Aside0.mk (below_step (belG HB.out GE358.out) hb); clear BK358; clear HB; have BK358 := n0_; have HB := n1_; clear n0_ n1_; (try clear hb); (try clear hb2); (try clear hk); (try clear hi)) | ((with_reducible refine gate_callee (f := 35) rfl ?_); refine goesL_ (some 18) rfl rfl Try.func35 (by kernel_rfl) rfl #[.slice A0 l0.length c0, .int .i64 8] rfl (by (try simp only [List.map_toArray, List.map_cons, List.map_nil]); first | done | rfl | (simp only [List.length_drop, List.length_take]; rfl)) ?_; (with_reducible refine (talk_reader_text.calls _ _ l0 8 t366 _ ?side1 ?side2 A9.out).mono ?_); (case side1 => exact CU (Kd.C_below HR0.out HB.out)); (case side2 => exact HC0.out); rintro e w18 ⟨rfl, hb⟩; refine ⟨_, rfl, ?_⟩; have n0_ := Aside0.mk (blk_below (blkU BK358.out) hb); have n1_ := Aside0.mk (below_step (belG HB.out GE358.out) hb); clear BK358; clear HB; have BK358 := n0_; have HB := n1_; clear n0_ n1_; (try clear hb); (try clear hb2); (try clear hk); (try clear hi); have hcz19_0 : w18.cell? ⟨gb358, 0, none⟩ = some (.int .i64 0) := (blk_cell BK358.out 0).trans rfl; have hcz19_1 : w18.cell? ⟨gb358, 1, none⟩ = some (.int .i64 0) := (blk_cell BK358.out 1).trans rfl; have hcz19_2 : w18.cell? ⟨gb358, 2, none⟩ = some (.int .i64 0) := (blk_cell BK358.out 2).trans rfl; have hcz19_3 : w18.cell? ⟨gb358, 3, none⟩ = some (.int .i64 0) := (blk_cell BK358.out 3).trans rfl; have hcz19_4 : w18.cell? ⟨gb358, 4, none⟩ = some (.int .i64 0) := (blk_cell BK358.out 4).trans rfl; have hcz19_5 : w18.cell? ⟨gb358, 5, none⟩ = some (.int .i64 0) := (blk_cell BK358.out 5).trans rfl; have hcz19_6 : w18.cell? ⟨gb358, 6, none⟩ = some (.string (⟨#[]⟩ : ByteArray)) := (blk_cell BK358.out 6).trans rfl; have hcz19_7 : w18.cell? ⟨gb358, 7, none⟩ = some (.string (⟨#[]⟩ : ByteArray)) := (blk_cell BK358.out 7).trans rfl; have hfz19_0 := blk_frozen BK358.out 0; have hfz19_1 := blk_frozen BK358.out 1; have hfz19_2 := blk_frozen BK358.out 2; have hfz19_3 := blk_frozen BK358.out 3; have hfz19_4 := blk_frozen BK358.out 4; have hfz19_5 := blk_frozen BK358.out 5; have hfz19_6 := blk_frozen BK358.out 6; have hfz19_7 := blk_frozen BK358.out 7))
  refine bodyPost_ret (results_cell_row rfl _ _ gb358 23 #[.int .i64 t359, .int .i64 t360, .int .i64 t361, .int .i64 t362, .int .i64 t363, .int .i64 t364, .string t365, .string t366] (0, 0) _ rfl (blkP BK358.out (by rfl)) Try.underlying23 rfl (by kernel_rfl)) rfl ?_
  exact ⟨by first | rfl | (simp [errW_none, errW_some] <;> rfl) | (simp [*, errW_none, errW_some] <;> rfl), belG HB.out GE358.out⟩

end Go.Proofs.Ytjaneipklpgnlaa.Q

namespace Go.Proofs.Ytjaneipklpgnlaa.Q
open Go Go.RowKit Go.Proofs.YtjaneipklpgnlaaW.PrintWords Go.Proofs.YtjaneipklpgnlaaW.PrintLast Go.Proofs.YtjaneipklpgnlaaW.PrintMore
attribute [local go_sem ↓] Go.Proofs.YtjaneipklpgnlaaK.isSome_setCell
set_option linter.unusedSimpArgs false
set_option linter.unusedVariables false
def getN (L : List S84) (t : Int) : Int := (firstN (L.filter (isOf t 0))).1
def getT (L : List S84) (t : Int) : ByteArray := (firstT (textsOf L t)).1
def reqOf (L : List S84) : S23 := ⟨getN L 1, getN L 2, getN L 3, getN L 4, getN L 5, getN L 6, getT L 7, getT L 8⟩
def req0 : S23 := ⟨0, 0, 0, 0, 0, 0, ⟨#[]⟩, ⟨#[]⟩⟩
def rrS (s : ByteArray) : S23 × Int := if (decS s).2 = 0 then (if (reqS (reqOf (decS s).1)).2 = 0 ∧ (reqS (reqOf (decS s).1)).1.toList = s.toList then (reqOf (decS s).1, 0) else (req0, 5)) else (req0, 5)
def talk_ReadRequest.f (a0 : ByteArray) : Option (Int × Int × Int × Int × Int × Int × ByteArray × ByteArray × Int) := some ((rrS a0).1.f0, (rrS a0).1.f1, (rrS a0).1.f2, (rrS a0).1.f3, (rrS a0).1.f4, (rrS a0).1.f5, (rrS a0).1.f6, (rrS a0).1.f7, (rrS a0).2)
theorem dec_len (s : ByteArray) : (decS s).1.length ≤ 1048576 := by
  rcases decS_total s with h | h
  · obtain ⟨L, e, hd⟩ : ∃ L e, decS s = (L, e) := ⟨_, _, rfl⟩
    rw [hd] at h ⊢
    simp only at h
    subst h
    obtain ⟨_, h2, _⟩ := (decS_iff s L).1 hd
    have := flat_ge L
    show L.length ≤ 1048576
    omega
  · rw [h]
    simp
theorem rnum_fn (L : List S84) (hl : L.length ≤ 1048576) (t : Int) : talk_reader_num.f L t = some (getN L t) := by
  unfold talk_reader_num.f
  rw [num_fn2 L hl t]
  rfl
theorem rtext_fn (L : List S84) (hl : L.length ≤ 1048576) (t : Int) : talk_reader_text.f L t = some (getT L t) := by
  unfold talk_reader_text.f
  rw [text_fn2 L hl t]
  rfl
theorem build_fn (L : List S84) (hl : L.length ≤ 1048576) : talk_ReadRequest_1.f L = some ((reqOf L).f0, (reqOf L).f1, (reqOf L).f2, (reqOf L).f3, (reqOf L).f4, (reqOf L).f5, (reqOf L).f6, (reqOf L).f7) := by
  unfold talk_ReadRequest_1.f
  simp only [rnum_fn L hl, rtext_fn L hl, Option.bind_some]
  rfl
/-- A request as the model has it. -/
def reqV (r : S23) : Value := .agg #[.int .i64 r.f0, .int .i64 r.f1, .int .i64 r.f2, .int .i64 r.f3, .int .i64 r.f4, .int .i64 r.f5, .string r.f6, .string r.f7]
theorem build_any (w : World) (v : Value) (L : List S84) (base : Nat) (hv : Kd.R k84 84 w base (fun _ => True) v L) (hl : L.length ≤ 1048576) :
    Calls Try.prog 33 #[v] w fun e w' => e = .returned (reqV (reqOf L)) ∧ Below w.heap.size w w' := by
  obtain ⟨A3, k3, he3, hk3, hc3⟩ := Kd.R_reads hv
  subst he3
  exact talk_ReadRequest_1.calls A3 k3 L _ _ _ _ _ _ _ _ w hc3 hk3 (build_fn L hl)
def reqA (r : S23) : Array Value := #[.int .i64 r.f0, .int .i64 r.f1, .int .i64 r.f2, .int .i64 r.f3, .int .i64 r.f4, .int .i64 r.f5, .string r.f6, .string r.f7]
abbrev Zc : Array Value := #[.int .i64 0, .int .i64 0, .int .i64 0, .int .i64 0, .int .i64 0, .int .i64 0, .string ⟨#[]⟩, .string ⟨#[]⟩]
abbrev Zr : Obj := .cells Zc 23 (0, 0)
theorem info23 : (Try.prog.info? 23).map (·.size) = some 8 := by kernel_rfl
open Go.Proofs.YtjaneipklpgnlaaK in
set_option maxRecDepth 100000 in
set_option maxHeartbeats 1000000 in
theorem read_no (w : World) (s : ByteArray) (hd : (decS s).2 ≠ 0) :
    Calls Try.prog 32 #[.string s, .func (.func 33) #[] #[], .func (.func 9) #[] #[]] w fun e w' => e = .returned (.tuple #[reqV req0, .int .i64 5]) ∧ Below w.heap.size w w' := by
  have hu23 := Try.underlying23
  have HB0 := Aside0.mk (below_alloc (below_alloc (Below.refl w.heap.size w) Zr) Zr)
  have HX0 := Aside0.mk (blk_alloc (blk_new w Zr) Zr)
  have hy0 := blk_new (w.alloc Zr) Zr
  rw [World.size_alloc] at hy0
  have HY0 := Aside0.mk hy0
  have h5 : decS s = ([], 5) := by rcases decS_total s with h | h; · exact absurd h hd
                                   · exact h
  have hc := fun W => field_Decode.calls s [] 5 W (by rw [dec_fn, h5])
  have HC := Aside0.mk hc
  clear hc h5 hd hy0
  go_enter Try.func32, Try.ntmps32
  go_wp2_with fail
  refine (HC.out _).mono ?_
  rintro e w1 ⟨v, rfl, hv, hb1⟩
  have HB1 := Aside0.mk (below_step HB0.out hb1)
  have HX1 := Aside0.mk (blk_below HX0.out hb1)
  have HY1 := Aside0.mk (blk_below HY0.out hb1)
  obtain ⟨A0, c0, rfl⟩ := Kd.R_slice hv
  clear hv hb1
  go_wp2_with (first
    | (refine box_load rfl 23 (.tmp 8) rfl HY1.out rfl hu23 rfl info23 ?_)
    | (refine box_store rfl rfl 23 (.tmp 6) (.tmp 21) rfl HX1.out #[.int .i64 0, .int .i64 0, .int .i64 0, .int .i64 0, .int .i64 0, .int .i64 0, .string ⟨#[]⟩, .string ⟨#[]⟩] rfl rfl info23 rfl rfl ?_; intro w2 hx2 hg2; have HX2 := Aside0.mk hx2; have HB2 := Aside0.mk (below_box HB1.out hg2 (Nat.le_refl _)); clear hx2 hg2))
  refine bodyPost_ret (results_row_tmp rfl _ _ (.int .i64 5) HX2.out rfl rfl hu23 rfl info23) rfl ?_
  exact ⟨rfl, HB2.out⟩
open Go.Proofs.YtjaneipklpgnlaaK in
set_option maxRecDepth 100000 in
set_option maxHeartbeats 1000000 in
theorem read_yes (w : World) (s : ByteArray) (hd : (decS s).2 = 0) (r : S23) (hr : reqOf (decS s).1 = r) (t : ByteArray) (e2 : Int) (hq : reqS r = (t, e2)) (ok : Bool) (hok : ok = true ↔ e2 = 0 ∧ t.toList = s.toList) :
    Calls Try.prog 32 #[.string s, .func (.func 33) #[] #[], .func (.func 9) #[] #[]] w fun e w' => e = .returned (.tuple #[reqV (if ok then r else req0), .int .i64 (if ok then 0 else 5)]) ∧ Below w.heap.size w w' := by
  have hu23 := Try.underlying23
  have HB0 := Aside0.mk (below_alloc (below_alloc (Below.refl w.heap.size w) Zr) Zr)
  have HX0 := Aside0.mk (blk_alloc (blk_new w Zr) Zr)
  have hy0 := blk_new (w.alloc Zr) Zr
  rw [World.size_alloc] at hy0
  have HY0 := Aside0.mk hy0
  have hl := dec_len s
  obtain ⟨L, e1, hL⟩ : ∃ L e1, decS s = (L, e1) := ⟨_, _, rfl⟩
  rw [hL] at hd hr hl
  simp only at hd hr hl
  subst hd
  have hc := fun W => field_Decode.calls s L 0 W (by rw [dec_fn, hL])
  have HC := Aside0.mk hc
  have hbld := fun (W : World) (v : Value) (base : Nat) (h : Kd.R k84 84 W base (fun _ => True) v L) => build_any W v L base h hl
  rw [hr] at hbld
  have hrq := fun W => req_any W r
  rw [hq] at hrq
  clear hc hy0 hL hl hr hq
  obtain ⟨r0, r1, r2, r3, r4, r5, r6, r7⟩ := r
  have HBL : Aside0 (∀ (W : World) (v : Value) (base : Nat), Kd.R k84 84 W base (fun _ => True) v L → Calls Try.prog 33 #[v] W fun e w' => e = .returned (.agg #[.int .i64 r0, .int .i64 r1, .int .i64 r2, .int .i64 r3, .int .i64 r4, .int .i64 r5, .string r6, .string r7]) ∧ Below W.heap.size W w') := ⟨hbld⟩
  have HRQ : Aside0 (∀ W : World, Calls Try.prog 9 #[.agg #[.int .i64 r0, .int .i64 r1, .int .i64 r2, .int .i64 r3, .int .i64 r4, .int .i64 r5, .string r6, .string r7]] W fun e w' => e = .returned (.tuple #[.string t, .int .i64 e2]) ∧ Below W.heap.size W w') := ⟨hrq⟩
  clear hbld hrq
  have HOK := Aside0.mk hok
  clear hok
  by_cases h2 : e2 = 0
  · subst h2
    by_cases h3 : t.toList = s.toList
    · have hk : ok = true := HOK.out.2 ⟨rfl, h3⟩
      subst hk
      clear HOK
      have h3a : (t.toList == s.toList) = true := beq_iff_eq.mpr h3
      have h3b : (t.toList != s.toList) = false := bne_eq_false_iff_eq.mpr h3
      clear h3
      go_enter Try.func32, Try.ntmps32
      go_wp2_with fail
      refine (HC.out _).mono ?_
      rintro e w1 ⟨v, rfl, hv, hb1⟩
      have HB1 := Aside0.mk (below_step HB0.out hb1)
      have HX1 := Aside0.mk (blk_below HX0.out hb1)
      have HY1 := Aside0.mk (blk_below HY0.out hb1)
      have HV := Aside0.mk hv
      clear hb1 hv
      go_wp2_with fail
      refine (HBL.out _ _ _ HV.out).mono ?_
      rintro e w2 ⟨rfl, hb2⟩
      have HB2 := Aside0.mk (below_alloc (below_step HB1.out hb2) (.cells #[.int .i64 r0, .int .i64 r1, .int .i64 r2, .int .i64 r3, .int .i64 r4, .int .i64 r5, .string r6, .string r7] 23))
      have HX2 := Aside0.mk (blk_alloc (blk_below HX1.out hb2) (.cells #[.int .i64 r0, .int .i64 r1, .int .i64 r2, .int .i64 r3, .int .i64 r4, .int .i64 r5, .string r6, .string r7] 23))
      have HY2 := Aside0.mk (blk_alloc (blk_below HY1.out hb2) (.cells #[.int .i64 r0, .int .i64 r1, .int .i64 r2, .int .i64 r3, .int .i64 r4, .int .i64 r5, .string r6, .string r7] 23))
      have HZ2 := Aside0.mk (blk_new w2 (.cells #[.int .i64 r0, .int .i64 r1, .int .i64 r2, .int .i64 r3, .int .i64 r4, .int .i64 r5, .string r6, .string r7] 23))
      clear hb2 HV
      go_wp2_with fail
      refine (HRQ.out _).mono ?_
      rintro e w3 ⟨rfl, hb3⟩
      have HB3 := Aside0.mk (below_step HB2.out hb3)
      have HX3 := Aside0.mk (blk_below HX2.out hb3)
      have HY3 := Aside0.mk (blk_below HY2.out hb3)
      have HZ3 := Aside0.mk (blk_below HZ2.out hb3)
      clear hb3
      go_wp2_with (first
        | (refine box_load rfl 23 (.tmp 11) rfl HZ3.out rfl hu23 rfl info23 ?_)
        | (refine box_store rfl rfl 23 (.tmp 6) (.tmp 39) rfl HX3.out #[.int .i64 r0, .int .i64 r1, .int .i64 r2, .int .i64 r3, .int .i64 r4, .int .i64 r5, .string r6, .string r7] rfl rfl info23 rfl rfl ?_; intro w4 hx4 hg4; have HX4 := Aside0.mk hx4; have HB4 := Aside0.mk (below_box HB3.out hg4 (Nat.le_refl _)); clear hx4 hg4))
      refine bodyPost_ret (results_row_tmp rfl _ _ (.int .i64 0) HX4.out rfl rfl hu23 rfl info23) rfl ?_
      exact ⟨rfl, HB4.out⟩
    · have hk : ok = false := by cases ok with | false => rfl | true => exact absurd (HOK.out.1 rfl).2 h3
      subst hk
      clear HOK
      have h3a : (t.toList == s.toList) = false := beq_eq_false_iff_ne.mpr h3
      have h3b : (t.toList != s.toList) = true := bne_iff_ne.mpr h3
      clear h3
      go_enter Try.func32, Try.ntmps32
      go_wp2_with fail
      refine (HC.out _).mono ?_
      rintro e w1 ⟨v, rfl, hv, hb1⟩
      have HB1 := Aside0.mk (below_step HB0.out hb1)
      have HX1 := Aside0.mk (blk_below HX0.out hb1)
      have HY1 := Aside0.mk (blk_below HY0.out hb1)
      have HV := Aside0.mk hv
      clear hb1 hv
      go_wp2_with fail
      refine (HBL.out _ _ _ HV.out).mono ?_
      rintro e w2 ⟨rfl, hb2⟩
      have HB2 := Aside0.mk (below_alloc (below_step HB1.out hb2) (.cells #[.int .i64 r0, .int .i64 r1, .int .i64 r2, .int .i64 r3, .int .i64 r4, .int .i64 r5, .string r6, .string r7] 23))
      have HX2 := Aside0.mk (blk_alloc (blk_below HX1.out hb2) (.cells #[.int .i64 r0, .int .i64 r1, .int .i64 r2, .int .i64 r3, .int .i64 r4, .int .i64 r5, .string r6, .string r7] 23))
      have HY2 := Aside0.mk (blk_alloc (blk_below HY1.out hb2) (.cells #[.int .i64 r0, .int .i64 r1, .int .i64 r2, .int .i64 r3, .int .i64 r4, .int .i64 r5, .string r6, .string r7] 23))
      have HZ2 := Aside0.mk (blk_new w2 (.cells #[.int .i64 r0, .int .i64 r1, .int .i64 r2, .int .i64 r3, .int .i64 r4, .int .i64 r5, .string r6, .string r7] 23))
      clear hb2 HV
      go_wp2_with fail
      refine (HRQ.out _).mono ?_
      rintro e w3 ⟨rfl, hb3⟩
      have HB3 := Aside0.mk (below_step HB2.out hb3)
      have HX3 := Aside0.mk (blk_below HX2.out hb3)
      have HY3 := Aside0.mk (blk_below HY2.out hb3)
      have HZ3 := Aside0.mk (blk_below HZ2.out hb3)
      clear hb3
      go_wp2_with (first
        | (refine box_load rfl 23 (.tmp 8) rfl HY3.out rfl hu23 rfl info23 ?_)
        | (refine box_store rfl rfl 23 (.tmp 6) (.tmp 38) rfl HX3.out #[.int .i64 0, .int .i64 0, .int .i64 0, .int .i64 0, .int .i64 0, .int .i64 0, .string ⟨#[]⟩, .string ⟨#[]⟩] rfl rfl info23 rfl rfl ?_; intro w4 hx4 hg4; have HX4 := Aside0.mk hx4; have HB4 := Aside0.mk (below_box HB3.out hg4 (Nat.le_refl _)); clear hx4 hg4))
      refine bodyPost_ret (results_row_tmp rfl _ _ (.int .i64 5) HX4.out rfl rfl hu23 rfl info23) rfl ?_
      exact ⟨rfl, HB4.out⟩
  · have hk : ok = false := by cases ok with | false => rfl | true => exact absurd (HOK.out.1 rfl).1 h2
    subst hk
    clear HOK
    have h2a : (e2 == 0) = false := beq_eq_false_iff_ne.mpr h2
    have h2b : (e2 != 0) = true := bne_iff_ne.mpr h2
    clear h2
    go_enter Try.func32, Try.ntmps32
    go_wp2_with fail
    refine (HC.out _).mono ?_
    rintro e w1 ⟨v, rfl, hv, hb1⟩
    have HB1 := Aside0.mk (below_step HB0.out hb1)
    have HX1 := Aside0.mk (blk_below HX0.out hb1)
    have HY1 := Aside0.mk (blk_below HY0.out hb1)
    have HV := Aside0.mk hv
    clear hb1 hv
    go_wp2_with fail
    refine (HBL.out _ _ _ HV.out).mono ?_
    rintro e w2 ⟨rfl, hb2⟩
    have HB2 := Aside0.mk (below_alloc (below_step HB1.out hb2) (.cells #[.int .i64 r0, .int .i64 r1, .int .i64 r2, .int .i64 r3, .int .i64 r4, .int .i64 r5, .string r6, .string r7] 23))
    have HX2 := Aside0.mk (blk_alloc (blk_below HX1.out hb2) (.cells #[.int .i64 r0, .int .i64 r1, .int .i64 r2, .int .i64 r3, .int .i64 r4, .int .i64 r5, .string r6, .string r7] 23))
    have HY2 := Aside0.mk (blk_alloc (blk_below HY1.out hb2) (.cells #[.int .i64 r0, .int .i64 r1, .int .i64 r2, .int .i64 r3, .int .i64 r4, .int .i64 r5, .string r6, .string r7] 23))
    have HZ2 := Aside0.mk (blk_new w2 (.cells #[.int .i64 r0, .int .i64 r1, .int .i64 r2, .int .i64 r3, .int .i64 r4, .int .i64 r5, .string r6, .string r7] 23))
    clear hb2 HV
    go_wp2_with fail
    refine (HRQ.out _).mono ?_
    rintro e w3 ⟨rfl, hb3⟩
    have HB3 := Aside0.mk (below_step HB2.out hb3)
    have HX3 := Aside0.mk (blk_below HX2.out hb3)
    have HY3 := Aside0.mk (blk_below HY2.out hb3)
    have HZ3 := Aside0.mk (blk_below HZ2.out hb3)
    clear hb3
    go_wp2_with (first
      | (refine box_load rfl 23 (.tmp 8) rfl HY3.out rfl hu23 rfl info23 ?_)
      | (refine box_store rfl rfl 23 (.tmp 6) (.tmp 38) rfl HX3.out #[.int .i64 0, .int .i64 0, .int .i64 0, .int .i64 0, .int .i64 0, .int .i64 0, .string ⟨#[]⟩, .string ⟨#[]⟩] rfl rfl info23 rfl rfl ?_; intro w4 hx4 hg4; have HX4 := Aside0.mk hx4; have HB4 := Aside0.mk (below_box HB3.out hg4 (Nat.le_refl _)); clear hx4 hg4))
    refine bodyPost_ret (results_row_tmp rfl _ _ (.int .i64 5) HX4.out rfl rfl hu23 rfl info23) rfl ?_
    exact ⟨rfl, HB4.out⟩
theorem read_any (w : World) (s : ByteArray) :
    Calls Try.prog 32 #[.string s, .func (.func 33) #[] #[], .func (.func 9) #[] #[]] w fun e w' => e = .returned (.tuple #[reqV (rrS s).1, .int .i64 (rrS s).2]) ∧ Below w.heap.size w w' := by
  by_cases hd : (decS s).2 = 0
  · obtain ⟨t, e2, hq⟩ : ∃ t e2, reqS (reqOf (decS s).1) = (t, e2) := ⟨_, _, rfl⟩
    have H := read_yes w s hd _ rfl t e2 hq (decide (e2 = 0 ∧ t.toList = s.toList)) decide_eq_true_iff
    unfold rrS
    rw [if_pos hd, hq]
    by_cases hk : e2 = 0 ∧ t.toList = s.toList
    · rw [if_pos hk]
      rw [decide_eq_true hk] at H
      exact H
    · rw [if_neg hk]
      rw [decide_eq_false hk] at H
      exact H
  · have H := read_no w s hd
    unfold rrS
    rw [if_neg hd]
    exact H
open Go.Proofs.YtjaneipklpgnlaaK in
theorem talk_ReadRequest.calls (a0 : ByteArray) (r1 r2 r3 r4 r5 r6 : Int) (r7 r8 : ByteArray) (r9 : Int) (w : World) (h : talk_ReadRequest.f a0 = some (r1, r2, r3, r4, r5, r6, r7, r8, r9)) :
    Calls Try.prog 11 #[.string a0] w fun e w' => e = .returned (.tuple #[.agg #[.int .i64 r1, .int .i64 r2, .int .i64 r3, .int .i64 r4, .int .i64 r5, .int .i64 r6, .string r7, .string r8], .int .i64 r9]) ∧ Below w.heap.size w w' := by
  have h := Option.some.inj h
  simp only [Prod.mk.injEq] at h
  obtain ⟨rfl, rfl, rfl, rfl, rfl, rfl, rfl, rfl, rfl⟩ := h
  have hu23 := Try.underlying23
  have HB0 := Aside0.mk (below_alloc (Below.refl w.heap.size w) Zr)
  have HX0 := Aside0.mk (blk_new w Zr)
  have hc := fun W => read_any W a0
  obtain ⟨r, q, hq⟩ : ∃ r q, rrS a0 = (r, q) := ⟨_, _, rfl⟩
  rw [hq] at hc ⊢
  obtain ⟨r0, r1, r2, r3, r4, r5, r6, r7⟩ := r
  have HC : Aside0 (∀ W : World, Calls Try.prog 32 #[.string a0, .func (.func 33) #[] #[], .func (.func 9) #[] #[]] W fun e w' => e = .returned (.tuple #[.agg #[.int .i64 r0, .int .i64 r1, .int .i64 r2, .int .i64 r3, .int .i64 r4, .int .i64 r5, .string r6, .string r7], .int .i64 q]) ∧ Below W.heap.size W w') := ⟨hc⟩
  clear hc hq h
  go_enter Try.func11, Try.ntmps11
  go_wp2_with fail
  refine (HC.out _).mono ?_
  rintro e w1 ⟨rfl, hb1⟩
  have HB1 := Aside0.mk (below_step HB0.out hb1)
  have HX1 := Aside0.mk (blk_below HX0.out hb1)
  clear hb1
  go_wp2_with (refine box_store rfl rfl 23 (.tmp 2) (.tmp 6) rfl HX1.out #[.int .i64 r0, .int .i64 r1, .int .i64 r2, .int .i64 r3, .int .i64 r4, .int .i64 r5, .string r6, .string r7] rfl rfl info23 rfl rfl ?_; intro w4 hx4 hg4; have HX4 := Aside0.mk hx4; have HB4 := Aside0.mk (below_box HB1.out hg4 (Nat.le_refl _)); clear hx4 hg4)
  refine bodyPost_ret (results_row_tmp rfl _ _ (.int .i64 q) HX4.out rfl rfl hu23 rfl info23) rfl ?_
  exact ⟨rfl, HB4.out⟩
end Go.Proofs.Ytjaneipklpgnlaa.Q

namespace Go.Proofs.Ytjaneipklpgnlaa.Q
open Go.RowKit Go.Proofs.YtjaneipklpgnlaaW.PrintWords Go.Proofs.YtjaneipklpgnlaaW.PrintLast Go.Proofs.YtjaneipklpgnlaaW.PrintMore
attribute [local go_sem] max2_int min2_int max_two min_two max_three min_three max_four min_four   -- for this text's walks alone
attribute [local go_sem ↓] Go.Proofs.YtjaneipklpgnlaaK.isSome_setCell
set_option linter.unusedVariables false
set_option linter.unusedSimpArgs false

/-! ### aquiferref20_num: function 42 -/
def aquiferref20_num.f (a0 : Int) : Option (Bool) := if a0 ≥ 0 then (some (decide (a0 ≤ 4611686018427387904))) else (some false)
set_option maxHeartbeats 8000000 in
set_option maxRecDepth 100000 in
theorem aquiferref20_num.calls (a0 : Int) (r : Bool) (w : World) (h : aquiferref20_num.f a0 = some r) :
    Calls Try.prog 42 #[.int .i64 a0] w fun e w' => e = .returned (.bool r) ∧ Drawn0 w w' := by
  have H : (if a0 ≥ 0 then (some (decide (a0 ≤ 4611686018427387904))) else (some false)) = some r := h
  clear h
  by_cases c2 : a0 ≥ 0
  · rw [if_pos c2] at H
    have c2b0 : decide (0 ≤ a0) = true := decide_eq_true c2
    clear c2
    obtain rfl := Option.some.inj H
    go_enter Try.func42, Try.ntmps42
    go_wp2
    go_ret
    exact ⟨by first | rfl | (simp; done) | (simp [*]; done), by repeat (first | exact Drawn0.refl _ | apply Drawn0.step)⟩
  · rw [if_neg c2] at H
    have c2b0 : decide (0 ≤ a0) = false := decide_eq_false c2
    clear c2
    obtain rfl := Option.some.inj H
    go_enter Try.func42, Try.ntmps42
    go_wp2
    go_ret
    exact ⟨by first | rfl | (simp; done) | (simp [*]; done), by repeat (first | exact Drawn0.refl _ | apply Drawn0.step)⟩

end Go.Proofs.Ytjaneipklpgnlaa.Q

namespace Go.Proofs.Ytjaneipklpgnlaa.Q
open Go.RowKit Go.Proofs.YtjaneipklpgnlaaW.PrintWords Go.Proofs.YtjaneipklpgnlaaW.PrintLast Go.Proofs.YtjaneipklpgnlaaW.PrintMore Go.Proofs.YtjaneipklpgnlaaK
attribute [local go_sem] max2_int min2_int max_two min_two max_three min_three max_four min_four   -- for this text's walks alone
attribute [local go_sem ↓] Go.Proofs.YtjaneipklpgnlaaK.isSome_setCell
set_option linter.unusedVariables false
set_option linter.unusedSimpArgs false

/-! ### aquiferref20_number: function 29 -/
def aquiferref20_number.f (a0 : Int) (a1 : Int) : Option ((List (S84))) := if a1 = 0 then (some ([] : List (S84))) else (some (([(⟨a0, 0, a1, (⟨#[]⟩ : ByteArray)⟩ : S84)] : List (S84))))
set_option maxHeartbeats 8000000 in
set_option maxRecDepth 100000 in
theorem aquiferref20_number.calls (a0 : Int) (a1 : Int) (r : List (S84)) (w : World) (h : aquiferref20_number.f a0 a1 = some r) :
    Calls Try.prog 29 #[.int .i64 a0, .int .i64 a1] w fun e w' => ∃ v0_ : Value, e = .returned (v0_) ∧ Kd.R k84 84 w' w.heap.size (fun _ => True) v0_ r ∧ Below w.heap.size w w' := by
  have hu84 := Try.underlying84
  have HB := Aside0.mk (Below.refl w.heap.size w)
  have H : (if a1 = 0 then (some ([] : List (S84))) else (some (([(⟨a0, 0, a1, (⟨#[]⟩ : ByteArray)⟩ : S84)] : List (S84))))) = some r := h
  clear h
  by_cases c3 : a1 = 0
  · rw [if_pos c3] at H
    have c3b0 : (a1 == 0) = true := beq_iff_eq.mpr c3
    have c3b1 : (a1 != 0) = false := bne_eq_false_iff_eq.mpr c3
    clear c3
    obtain rfl := Option.some.inj H
    go_enter Try.func29, Try.ntmps29
    go_wp2
    go_ret
    exact ⟨_, by first | rfl | (simp [errW_none, errW_some] <;> rfl) | (simp [*, errW_none, errW_some] <;> rfl), by first | exact Kd.R_nil _ _ _ _ _ | exact Kd.N_nil _ _ _ _ _ | exact Kd.V_nil _ _ _ _ _ | exact Kd.Q_nil _ _ _ _ _ | exact Kd.S_nil _ _ _ _ _, belU HB.out⟩
  · rw [if_neg c3] at H
    have c3b0 : (a1 == 0) = false := beq_eq_false_iff_ne.mpr c3
    have c3b1 : (a1 != 0) = true := bne_iff_ne.mpr c3
    obtain ⟨y144, hy144⟩ : ∃ y_ : List (S84), y_ = (([(⟨a0, 0, a1, (⟨#[]⟩ : ByteArray)⟩ : S84)] : List (S84))) := ⟨_, rfl⟩
    replace H : (some y144) = some r := by first | (rw [hy144]; with_reducible exact H) | (have H2_ := (Option.bind_some _ _).symm.trans H; rw [hy144]; with_reducible exact H2_) | (have H2_ := (Option.bind_some _ _).symm.trans H; with_reducible exact H2_) | with_reducible exact H | (rw [hy144]; exact H) | exact H
    have Ny144 := Aside0.mk hy144
    clear hy144
    obtain rfl := Option.some.inj H
    go_enter Try.func29, Try.ntmps29
    go_wp2_with (first | ((with_reducible refine gate_dst (N := 10) rfl ?_); refine Kd.R_lit k84 _ 84 ?hg (N := 10) ?hd (xs := ([(⟨a0, 0, a1, (⟨#[]⟩ : ByteArray)⟩ : S84)] : List (S84))) (inner := [.int .i64 a0, .int .i64 0, .int .i64 a1, .string (⟨#[]⟩ : ByteArray)]) (ok := fun _ => True) (okp := fun _ => True) ?hr ?hp (fun _ hk => hk) trivial (Below.refl _ _) (Nat.le_refl _) (by simp) ?_; (case hd => rfl); (case hg => rfl); (case hr => first | (go_simp; done) | (go_simp; rfl)); (case hp => exact (Reps.c4 (show Kd.M k84 _ _ _ (⟨a0, 0, a1, (⟨#[]⟩ : ByteArray)⟩ : S84) [.int .i64 a0, .int .i64 0, .int .i64 a1, .string (⟨#[]⟩ : ByteArray)] from (k84_mkM _ _ _ (⟨a0, 0, a1, (⟨#[]⟩ : ByteArray)⟩ : S84) )) (Reps.none _ _))); intro v145 w4 ho5 hb hg_ hnew_; clear hg_ hnew_; (first | rw [← Ny144.out] at ho5 | (simp only [Int.reduceToNat] at ho5; rw [← Ny144.out] at ho5)); have n0_ := Aside0.mk (Kd.R_lower ho5 (sizU HB.out)); have n1_ := Aside0.mk (below_step (belU HB.out) hb); clear HB; have HO146 := n0_; have HB := n1_; clear n0_ n1_; clear hb ho5))
    go_ret
    exact ⟨_, by first | rfl | (simp [errW_none, errW_some] <;> rfl) | (simp [*, errW_none, errW_some] <;> rfl), by (with_reducible repeat (first | apply Kd.R_alloc | apply Kd.R_drewN | apply Kd.R_drew)); exact HO146.out, belU HB.out⟩

end Go.Proofs.Ytjaneipklpgnlaa.Q

namespace Go.Proofs.Ytjaneipklpgnlaa.Q
open Go.RowKit Go.Proofs.YtjaneipklpgnlaaW.PrintWords Go.Proofs.YtjaneipklpgnlaaW.PrintLast Go.Proofs.YtjaneipklpgnlaaW.PrintMore Go.Proofs.YtjaneipklpgnlaaK
attribute [local go_sem] max2_int min2_int max_two min_two max_three min_three max_four min_four   -- for this text's walks alone
attribute [local go_sem ↓] Go.Proofs.YtjaneipklpgnlaaK.isSome_setCell
set_option linter.unusedVariables false
set_option linter.unusedSimpArgs false

/-! ### aquiferref20_text: function 30 -/
def aquiferref20_text.f (a0 : Int) (a1 : ByteArray) : Option ((List (S84))) := if a1.toList = ([] : List UInt8) then (some ([] : List (S84))) else (some (([(⟨a0, 1, 0, a1⟩ : S84)] : List (S84))))
set_option maxHeartbeats 8000000 in
set_option maxRecDepth 100000 in
theorem aquiferref20_text.calls (a0 : Int) (a1 : ByteArray) (r : List (S84)) (w : World) (h : aquiferref20_text.f a0 a1 = some r) :
    Calls Try.prog 30 #[.int .i64 a0, .string a1] w fun e w' => ∃ v0_ : Value, e = .returned (v0_) ∧ Kd.R k84 84 w' w.heap.size (fun _ => True) v0_ r ∧ Below w.heap.size w w' := by
  have hu84 := Try.underlying84
  have HB := Aside0.mk (Below.refl w.heap.size w)
  have H : (if a1.toList = ([] : List UInt8) then (some ([] : List (S84))) else (some (([(⟨a0, 1, 0, a1⟩ : S84)] : List (S84))))) = some r := h
  clear h
  by_cases c3 : a1.toList = ([] : List UInt8)
  · rw [if_pos c3] at H
    have c3b0 : (a1.toList == ([] : List UInt8)) = true := beq_iff_eq.mpr c3
    have c3b1 : (a1.toList != ([] : List UInt8)) = false := bne_eq_false_iff_eq.mpr c3
    clear c3
    obtain rfl := Option.some.inj H
    go_enter Try.func30, Try.ntmps30
    go_wp2
    go_ret
    exact ⟨_, by first | rfl | (simp [errW_none, errW_some] <;> rfl) | (simp [*, errW_none, errW_some] <;> rfl), by first | exact Kd.R_nil _ _ _ _ _ | exact Kd.N_nil _ _ _ _ _ | exact Kd.V_nil _ _ _ _ _ | exact Kd.Q_nil _ _ _ _ _ | exact Kd.S_nil _ _ _ _ _, belU HB.out⟩
  · rw [if_neg c3] at H
    have c3b0 : (a1.toList == ([] : List UInt8)) = false := beq_eq_false_iff_ne.mpr c3
    have c3b1 : (a1.toList != ([] : List UInt8)) = true := bne_iff_ne.mpr c3
    obtain ⟨y147, hy147⟩ : ∃ y_ : List (S84), y_ = (([(⟨a0, 1, 0, a1⟩ : S84)] : List (S84))) := ⟨_, rfl⟩
    replace H : (some y147) = some r := by first | (rw [hy147]; with_reducible exact H) | (have H2_ := (Option.bind_some _ _).symm.trans H; rw [hy147]; with_reducible exact H2_) | (have H2_ := (Option.bind_some _ _).symm.trans H; with_reducible exact H2_) | with_reducible exact H | (rw [hy147]; exact H) | exact H
    have Ny147 := Aside0.mk hy147
    clear hy147
    obtain rfl := Option.some.inj H
    go_enter Try.func30, Try.ntmps30
    go_wp2_with (first | ((with_reducible refine gate_dst (N := 10) rfl ?_); refine Kd.R_lit k84 _ 84 ?hg (N := 10) ?hd (xs := ([(⟨a0, 1, 0, a1⟩ : S84)] : List (S84))) (inner := [.int .i64 a0, .int .i64 1, .int .i64 0, .string a1]) (ok := fun _ => True) (okp := fun _ => True) ?hr ?hp (fun _ hk => hk) trivial (Below.refl _ _) (Nat.le_refl _) (by simp) ?_; (case hd => rfl); (case hg => rfl); (case hr => first | (go_simp; done) | (go_simp; rfl)); (case hp => exact (Reps.c4 (show Kd.M k84 _ _ _ (⟨a0, 1, 0, a1⟩ : S84) [.int .i64 a0, .int .i64 1, .int .i64 0, .string a1] from (k84_mkM _ _ _ (⟨a0, 1, 0, a1⟩ : S84) )) (Reps.none _ _))); intro v148 w4 ho5 hb hg_ hnew_; clear hg_ hnew_; (first | rw [← Ny147.out] at ho5 | (simp only [Int.reduceToNat] at ho5; rw [← Ny147.out] at ho5)); have n0_ := Aside0.mk (Kd.R_lower ho5 (sizU HB.out)); have n1_ := Aside0.mk (below_step (belU HB.out) hb); clear HB; have HO149 := n0_; have HB := n1_; clear n0_ n1_; clear hb ho5))
    go_ret
    exact ⟨_, by first | rfl | (simp [errW_none, errW_some] <;> rfl) | (simp [*, errW_none, errW_some] <;> rfl), by (with_reducible repeat (first | apply Kd.R_alloc | apply Kd.R_drewN | apply Kd.R_drew)); exact HO149.out, belU HB.out⟩

end Go.Proofs.Ytjaneipklpgnlaa.Q

namespace Go.Proofs.Ytjaneipklpgnlaa.Q
open Go.RowKit Go.Proofs.YtjaneipklpgnlaaW.PrintWords Go.Proofs.YtjaneipklpgnlaaW.PrintLast Go.Proofs.YtjaneipklpgnlaaW.PrintMore Go.Proofs.YtjaneipklpgnlaaK
attribute [local go_sem] max2_int min2_int max_two min_two max_three min_three max_four min_four   -- for this text's walks alone
attribute [local go_sem ↓] Go.Proofs.YtjaneipklpgnlaaK.isSome_setCell
set_option linter.unusedVariables false
set_option linter.unusedSimpArgs false

/-! ### aquiferref20_get: function 37 -/
def aquiferref20_get.f (k : Nat) (l0 : List (S84)) (a1 : Int) : Option (Int) := (aquiferref04_Num.f k l0 a1).bind fun bt263 => (some bt263.1)
theorem aquiferref20_get.mono : ∀ a0 a1 k, LeO (aquiferref20_get.f k a0 a1) (aquiferref20_get.f (k + 1) a0 a1) := by
  intro a0 a1 k
  unfold aquiferref20_get.f
  repeat' first
      | (with_reducible exact aquiferref04_Num.mono _ _ _)
      | (with_reducible exact LeO.refl _)
      | (with_reducible exact LeO.none _)
      | (with_reducible refine LeO.ite ?_ ?_)
      | (with_reducible refine LeO.bind ?_ (fun _ => ?_))
      | exact aquiferref04_Num.mono _ _ _
      | exact LeO.none _
      | refine LeO.ite ?_ ?_
      | refine LeO.bind ?_ (fun _ => ?_)
set_option maxHeartbeats 8000000 in
set_option maxRecDepth 100000 in
theorem aquiferref20_get.calls (k : Nat) (A0 : Option Addr) (c0 : Nat) (l0 : List (S84)) (a1 : Int) (r : Int) (w : World) (hr0 : Kd.C k84 w A0 l0.length l0) (hc0 : l0.length ≤ c0) (h : aquiferref20_get.f k l0 a1 = some r) :
    Calls Try.prog 37 #[.slice A0 l0.length c0, .int .i64 a1] w fun e w' => e = .returned (.int .i64 r) ∧ Drawn0 w w' := by
  have HR0 := Aside0.mk hr0
  have HC0 := Aside0.mk hc0
  clear hr0 hc0
  have H : ((aquiferref04_Num.f k l0 a1).bind fun bt263 => (some bt263.1)) = some r := h
  clear h
  replace H := Option.bind_eq_some_iff.mp H
  obtain ⟨⟨t263, t264⟩, A30, H⟩ := H
  replace H : (some t263) = some r := H
  have A3 := Aside0.mk A30
  clear A30
  obtain rfl := Option.some.inj H
  go_enter Try.func37, Try.ntmps37
  go_wp2_with (first | ((with_reducible refine gate_callee (f := 59) rfl ?_); refine goesL_ (some 10) rfl rfl Try.func59 (by kernel_rfl) rfl #[.slice A0 l0.length c0, .int .i64 a1] rfl (by (try simp only [List.map_toArray, List.map_cons, List.map_nil]); first | done | rfl | (simp only [List.length_drop, List.length_take]; rfl)) ?_; (with_reducible refine (aquiferref04_Num.calls k _ _ l0 a1 t263 t264 _ ?side1 ?side2 A3.out).mono ?_); (case side1 => exact CU HR0.out); (case side2 => exact HC0.out); rintro e w' ⟨rfl, ⟨nd, rfl⟩⟩; refine ⟨_, rfl, ?_⟩))
  go_ret
  exact ⟨by first | rfl | (simp; done) | (simp [*]; done), by repeat (first | exact Drawn0.refl _ | apply Drawn0.step)⟩

end Go.Proofs.Ytjaneipklpgnlaa.Q

namespace Go.Proofs.Ytjaneipklpgnlaa.Q
open Go.RowKit Go.Proofs.YtjaneipklpgnlaaW.PrintWords Go.Proofs.YtjaneipklpgnlaaW.PrintLast Go.Proofs.YtjaneipklpgnlaaW.PrintMore Go.Proofs.YtjaneipklpgnlaaK
attribute [local go_sem] max2_int min2_int max_two min_two max_three min_three max_four min_four   -- for this text's walks alone
attribute [local go_sem ↓] Go.Proofs.YtjaneipklpgnlaaK.isSome_setCell
set_option linter.unusedVariables false
set_option linter.unusedSimpArgs false

/-! ### aquiferref20_word: function 38 -/
def aquiferref20_word.f (k : Nat) (l0 : List (S84)) (a1 : Int) : Option (ByteArray) := (aquiferref04_Text.f k l0 a1).bind fun bt275 => (some bt275.1)
theorem aquiferref20_word.mono : ∀ a0 a1 k, LeO (aquiferref20_word.f k a0 a1) (aquiferref20_word.f (k + 1) a0 a1) := by
  intro a0 a1 k
  unfold aquiferref20_word.f
  repeat' first
      | (with_reducible exact aquiferref04_Text.mono _ _ _)
      | (with_reducible exact LeO.refl _)
      | (with_reducible exact LeO.none _)
      | (with_reducible refine LeO.ite ?_ ?_)
      | (with_reducible refine LeO.bind ?_ (fun _ => ?_))
      | exact aquiferref04_Text.mono _ _ _
      | exact LeO.none _
      | refine LeO.ite ?_ ?_
      | refine LeO.bind ?_ (fun _ => ?_)
set_option maxHeartbeats 8000000 in
set_option maxRecDepth 100000 in
theorem aquiferref20_word.calls (k : Nat) (A0 : Option Addr) (c0 : Nat) (l0 : List (S84)) (a1 : Int) (r : ByteArray) (w : World) (hr0 : Kd.C k84 w A0 l0.length l0) (hc0 : l0.length ≤ c0) (h : aquiferref20_word.f k l0 a1 = some r) :
    Calls Try.prog 38 #[.slice A0 l0.length c0, .int .i64 a1] w fun e w' => e = .returned (.string r) ∧ Below w.heap.size w w' := by
  have HR0 := Aside0.mk hr0
  have HC0 := Aside0.mk hc0
  clear hr0 hc0
  have HB := Aside0.mk (Below.refl w.heap.size w)
  have H : ((aquiferref04_Text.f k l0 a1).bind fun bt275 => (some bt275.1)) = some r := h
  clear h
  replace H := Option.bind_eq_some_iff.mp H
  obtain ⟨⟨t275, t276⟩, A30, H⟩ := H
  replace H : (some t275) = some r := H
  have A3 := Aside0.mk A30
  clear A30
  obtain rfl := Option.some.inj H
  go_enter Try.func38, Try.ntmps38
  go_wp2_with (first | ((with_reducible refine gate_callee (f := 60) rfl ?_); refine goesL_ (some 10) rfl rfl Try.func60 (by kernel_rfl) rfl #[.slice A0 l0.length c0, .int .i64 a1] rfl (by (try simp only [List.map_toArray, List.map_cons, List.map_nil]); first | done | rfl | (simp only [List.length_drop, List.length_take]; rfl)) ?_; (with_reducible refine (aquiferref04_Text.calls k _ _ l0 a1 t275 t276 _ ?side1 ?side2 A3.out).mono ?_); (case side1 => exact CU HR0.out); (case side2 => exact HC0.out); rintro e w4 ⟨rfl, hb⟩; refine ⟨_, rfl, ?_⟩; have n0_ := Aside0.mk (below_step (belU HB.out) hb); clear HB; have HB := n0_; clear n0_; (try clear hb); (try clear hb2); (try clear hk); (try clear hi)))
  go_ret
  exact ⟨by first | rfl | (simp [errW_none, errW_some] <;> rfl) | (simp [*, errW_none, errW_some] <;> rfl), belU HB.out⟩

end Go.Proofs.Ytjaneipklpgnlaa.Q

namespace Go.Proofs.Ytjaneipklpgnlaa.Q
open Go Go.RowKit Go.Proofs.YtjaneipklpgnlaaW.PrintWords Go.Proofs.YtjaneipklpgnlaaW.PrintLast Go.Proofs.YtjaneipklpgnlaaW.PrintMore
set_option linter.unusedSimpArgs false
set_option linter.unusedVariables false
/-! ### What the document's own small functions answer -/
theorem rnum_not (n : Int) : aquiferref20_num.f n = some (!badN n) := by
  unfold aquiferref20_num.f badN
  by_cases h : n ≥ 0
  · rw [if_pos h]
    have e1 : decide (n < 0) = false := decide_eq_false (by omega)
    have e2 : decide (n > 4611686018427387904) = !decide (n ≤ 4611686018427387904) := by
      by_cases h2 : n ≤ 4611686018427387904
      · rw [decide_eq_true h2, decide_eq_false (by omega)]; rfl
      · rw [decide_eq_false h2, decide_eq_true (by omega)]; rfl
    rw [e1, e2]
    simp
  · rw [if_neg h, decide_eq_true (show n < 0 by omega)]
    rfl
theorem refnumb_fn (t n : Int) : aquiferref20_number.f t n = some (layN t [n]) := by
  unfold aquiferref20_number.f
  by_cases h : n = 0
  · rw [if_pos h, h]; rfl
  · rw [if_neg h]; simp [layN, h, fldN]
theorem reftext1_fn (t : Int) (s : ByteArray) : aquiferref20_text.f t s = some (layT t [s]) := by
  unfold aquiferref20_text.f
  by_cases h : s.toList = []
  · rw [if_pos h]; simp [layT, h]
  · rw [if_neg h]; simp [layT, h, fldT]
theorem layN_one (t n : Int) : (layN t [n]).length ≤ 1 := layN_len [n] t
theorem layT_one (t : Int) (s : ByteArray) : (layT t [s]).length ≤ 1 := layT_len [s] t
theorem refget_fn (L : List S84) (hl : L.length ≤ 1048576) (t : Int) (k : Nat) (hk : L.length < k) : aquiferref20_get.f k L t = some (getN L t) := by
  unfold aquiferref20_get.f
  rw [refNum_fn L hl t k hk]
  rfl
theorem refword_fn (L : List S84) (hl : L.length ≤ 1048576) (t : Int) (k : Nat) (hk : L.length < k) : aquiferref20_word.f k L t = some (getT L t) := by
  unfold aquiferref20_word.f
  rw [refText_fn L hl t k hk]
  rfl
end Go.Proofs.Ytjaneipklpgnlaa.Q

namespace Go.Proofs.Ytjaneipklpgnlaa.Q
open Go.RowKit Go.Proofs.YtjaneipklpgnlaaW.PrintWords Go.Proofs.YtjaneipklpgnlaaW.PrintLast Go.Proofs.YtjaneipklpgnlaaW.PrintMore Go.Proofs.YtjaneipklpgnlaaK
attribute [local go_sem] max2_int min2_int max_two min_two max_three min_three max_four min_four   -- for this text's walks alone
attribute [local go_sem ↓] Go.Proofs.YtjaneipklpgnlaaK.isSome_setCell
set_option linter.unusedVariables false
set_option linter.unusedSimpArgs false

/-! ### aquiferlaw20_few: function 8 -/
def aquiferlaw20_few.f (a0_0 : Int) (a0_1 : Int) (a0_2 : Int) (a0_3 : Int) (a0_4 : Int) (a0_5 : Int) (a0_6 : ByteArray) (a0_7 : ByteArray) : Option (Int × Int × Int × Int × Int × Int × ByteArray × ByteArray) := if 0 ≤ (mn (a0_6.size : Int) 4100) then (if (mn (a0_6.size : Int) 4100) ≤ (a0_6.size : Int) then (if 0 ≤ (mn (a0_7.size : Int) 4100) then (if (mn (a0_7.size : Int) 4100) ≤ (a0_7.size : Int) then (some (a0_0, a0_1, a0_2, a0_3, a0_4, a0_5, a0_6.extract 0 ((mn (a0_6.size : Int) 4100) : Int).toNat, a0_7.extract 0 ((mn (a0_7.size : Int) 4100) : Int).toNat)) else (none)) else (none)) else (none)) else (none)
def aquiferlaw20_few.T1 : Bool × List (List Nat × List Nat) := (true, [([], []), ([0], [0]), ([], []), ([2], [2]), ([3], [3]), ([4], [4]), ([1, 5], [1, 5]), ([], []), ([7], [7]), ([], []), ([9], [9]), ([10], [10]), ([11], [11]), ([8, 12], [8, 12]), ([0, 1, 2, 3, 4, 5, 6, 7, 8, 9, 10], []), ([14, 6, 0, 1, 2, 3, 4, 5, 6, 7, 8, 9, 10], [6, 14]), ([0, 1, 2, 3, 4, 5, 6, 7, 8, 9, 10, 11, 12, 13, 14, 15], []), ([16, 13, 15, 0, 1, 2, 3, 4, 5, 6, 7, 8, 9, 10, 11, 12, 13, 14, 15], [13, 16])])
def aquiferlaw20_few.B1 : List Nat := [0, 1, 0, 4, 12, 28, 63, 0, 128, 0, 512, 1536, 3584, 8064, 2047, 18431, 65535, 131071]
theorem aquiferlaw20_few.tab1 : rtab .any (opsOf Try.f8 1) = aquiferlaw20_few.T1 := by kernel_rfl
theorem aquiferlaw20_few.bits1 : waitsOk aquiferlaw20_few.T1.2 aquiferlaw20_few.B1 = true := by kernel_rfl
set_option maxHeartbeats 8000000 in
set_option maxRecDepth 100000 in
theorem aquiferlaw20_few.calls (a0_0 : Int) (a0_1 : Int) (a0_2 : Int) (a0_3 : Int) (a0_4 : Int) (a0_5 : Int) (a0_6 : ByteArray) (a0_7 : ByteArray) (r1 : Int) (r2 : Int) (r3 : Int) (r4 : Int) (r5 : Int) (r6 : Int) (r7 : ByteArray) (r8 : ByteArray) (w : World) (h : aquiferlaw20_few.f a0_0 a0_1 a0_2 a0_3 a0_4 a0_5 a0_6 a0_7 = some (r1, r2, r3, r4, r5, r6, r7, r8)) :
    Calls Try.prog 8 #[.agg #[.int .i64 a0_0, .int .i64 a0_1, .int .i64 a0_2, .int .i64 a0_3, .int .i64 a0_4, .int .i64 a0_5, .string a0_6, .string a0_7]] w fun e w' => e = .returned (.agg #[.int .i64 r1, .int .i64 r2, .int .i64 r3, .int .i64 r4, .int .i64 r5, .int .i64 r6, .string r7, .string r8]) ∧ Below w.heap.size w w' := by
  have hu23 := Try.underlying23
  have HB := Aside0.mk (Below.refl w.heap.size w)
  have H : (if 0 ≤ (mn (a0_6.size : Int) 4100) then (if (mn (a0_6.size : Int) 4100) ≤ (a0_6.size : Int) then (if 0 ≤ (mn (a0_7.size : Int) 4100) then (if (mn (a0_7.size : Int) 4100) ≤ (a0_7.size : Int) then (some (a0_0, a0_1, a0_2, a0_3, a0_4, a0_5, a0_6.extract 0 ((mn (a0_6.size : Int) 4100) : Int).toNat, a0_7.extract 0 ((mn (a0_7.size : Int) 4100) : Int).toNat)) else (none)) else (none)) else (none)) else (none)) = some (r1, r2, r3, r4, r5, r6, r7, r8) := h
  clear h
  obtain ⟨ji2, hji2⟩ : ∃ j_ : Int, (mn (a0_6.size : Int) 4100) = j_ := ⟨_, rfl⟩
  replace H : (if 0 ≤ (ji2) then (if (ji2) ≤ (a0_6.size : Int) then (if 0 ≤ (mn (a0_7.size : Int) 4100) then (if (mn (a0_7.size : Int) 4100) ≤ (a0_7.size : Int) then (some (a0_0, a0_1, a0_2, a0_3, a0_4, a0_5, a0_6.extract 0 ((ji2) : Int).toNat, a0_7.extract 0 ((mn (a0_7.size : Int) 4100) : Int).toNat)) else (none)) else (none)) else (none)) else (none)) = some (r1, r2, r3, r4, r5, r6, r7, r8) := by first | (rw [hji2] at H; exact H) | (simp only [hji2] at H ⊢; exact H)
  (try (have hji2h : ji2 ≤ 4100 := by (rw [← hji2]; unfold mn; (repeat' split) <;> omega)))
  (try (have hji2g : ji2 ≤ 64 := by omega))
  (try (have hji2l : 0 ≤ ji2 := by (rw [← hji2]; unfold mn; (repeat' split) <;> omega)))
  (try (have hji2m : 0 ≤ ji2 := by omega))
  have hji2_ : (if 4100 < (a0_6.size : Int) then 4100 else (a0_6.size : Int)) = ji2 := hji2
  by_cases c3 : 0 ≤ (ji2)
  · rw [if_pos c3] at H
    have c3b0 := eq_true c3
    have c3b1 : decide (0 ≤ (ji2)) = true := decide_eq_true c3
    clear c3
    by_cases c4 : (ji2) ≤ (a0_6.size : Int)
    · rw [if_pos c4] at H
      have c4b0 := eq_true c4
      have c4b1 : decide ((ji2) ≤ (a0_6.size : Int)) = true := decide_eq_true c4
      clear c4
      obtain ⟨ji5, hji5⟩ : ∃ j_ : Int, (mn (a0_7.size : Int) 4100) = j_ := ⟨_, rfl⟩
      replace H : (if 0 ≤ (ji5) then (if (ji5) ≤ (a0_7.size : Int) then (some (a0_0, a0_1, a0_2, a0_3, a0_4, a0_5, a0_6.extract 0 ((ji2) : Int).toNat, a0_7.extract 0 ((ji5) : Int).toNat)) else (none)) else (none)) = some (r1, r2, r3, r4, r5, r6, r7, r8) := by first | (rw [hji5] at H; exact H) | (simp only [hji5] at H ⊢; exact H)
      (try (have hji5h : ji5 ≤ 4100 := by (rw [← hji5]; unfold mn; (repeat' split) <;> omega)))
      (try (have hji5g : ji5 ≤ 64 := by omega))
      (try (have hji5l : 0 ≤ ji5 := by (rw [← hji5]; unfold mn; (repeat' split) <;> omega)))
      (try (have hji5m : 0 ≤ ji5 := by omega))
      have hji5_ : (if 4100 < (a0_7.size : Int) then 4100 else (a0_7.size : Int)) = ji5 := hji5
      by_cases c6 : 0 ≤ (ji5)
      · rw [if_pos c6] at H
        have c6b0 := eq_true c6
        have c6b1 : decide (0 ≤ (ji5)) = true := decide_eq_true c6
        clear c6
        by_cases c7 : (ji5) ≤ (a0_7.size : Int)
        · rw [if_pos c7] at H
          have c7b0 := eq_true c7
          have c7b1 : decide ((ji5) ≤ (a0_7.size : Int)) = true := decide_eq_true c7
          clear c7
          simp only [Option.some.injEq, Prod.mk.injEq] at H
          obtain ⟨rfl, rfl, rfl, rfl, rfl, rfl, rfl, rfl⟩ := H
          go_enter Try.func8, Try.ntmps8
          try go_wp2_with (first | ((with_reducible refine gate_dst (N := 1) rfl ?_); refine box_event ?hg (N := 1) ?hd (cs := #[.int .i64 a0_0, .int .i64 a0_1, .int .i64 a0_2, .int .i64 a0_3, .int .i64 a0_4, .int .i64 a0_5, .string a0_6, .string a0_7]) (t := 23) ?hr ?_; (case hd => rfl); (case hg => rfl); (case hr => first | (go_simp; done) | (go_simp; rfl)); intro gb101 hg w8 hbox hb; have n0_ := Aside0.mk (below_step (belU HB.out) hb); have n1_ := Aside0.mk (hbox); have n2_ := Aside0.mk ((by rw [hg]; exact (sizU HB.out) : w.heap.size ≤ gb101)); have n3_ := Aside0.mk ((by rw [hg]; exact (sizU HB.out) : w.heap.size ≤ gb101)); clear HB; have HB := n0_; have BK101 := n1_; have GW101 := n2_; have GE101 := n3_; clear n0_ n1_ n2_ n3_; clear hb hbox hg) | ((with_reducible refine gate_dst (N := 2) rfl ?_); refine box_event ?hg (N := 2) ?hd (cs := #[.int .i64 0, .int .i64 0, .int .i64 0, .int .i64 0, .int .i64 0, .int .i64 0, .string (⟨#[]⟩ : ByteArray), .string (⟨#[]⟩ : ByteArray)]) (t := 23) ?hr ?_; (case hd => rfl); (case hg => rfl); (case hr => first | (go_simp; done) | (go_simp; rfl)); intro gb102 hg w9 hbox hb; have n0_ := Aside0.mk (blk_below (blkU BK101.out) hb); have n1_ := Aside0.mk (below_step (belG HB.out GE101.out) hb); have n2_ := Aside0.mk (hbox); have n3_ := Aside0.mk ((by rw [hg]; exact (sizG HB.out GE101.out) : w.heap.size ≤ gb102)); have n4_ := Aside0.mk ((by rw [hg]; exact (sizG HB.out GE101.out) : w.heap.size ≤ gb102)); have n5_ := Aside0.mk ((by rw [hg]; exact Nat.ne_of_lt (blk_lt (g := gb101) (o := .cells #[.int .i64 a0_0, .int .i64 a0_1, .int .i64 a0_2, .int .i64 a0_3, .int .i64 a0_4, .int .i64 a0_5, .string a0_6, .string a0_7] 23 (0, 0)) (blkU BK101.out)) : gb101 ≠ gb102)); have n6_ := Aside0.mk ((by rw [hg]; exact Nat.ne_of_gt (blk_lt (g := gb101) (o := .cells #[.int .i64 a0_0, .int .i64 a0_1, .int .i64 a0_2, .int .i64 a0_3, .int .i64 a0_4, .int .i64 a0_5, .string a0_6, .string a0_7] 23 (0, 0)) (blkU BK101.out)) : gb102 ≠ gb101)); clear BK101; clear HB; have BK101 := n0_; have HB := n1_; have BK102 := n2_; have GW102 := n3_; have GE102 := n4_; have NB101_102 := n5_; have NB102_101 := n6_; clear n0_ n1_ n2_ n3_ n4_ n5_ n6_; clear hb hbox hg))
          have n0_ := Aside0.mk (blk_drew BK101.out)
          have n1_ := Aside0.mk (blk_drew BK102.out)
          have n2_ := Aside0.mk (below_drew1 HB.out)
          clear BK101
          clear BK102
          clear HB
          have BK101 := n0_
          have BK102 := n1_
          have HB := n2_
          clear n0_ n1_ n2_
          refine start_ (n := 18) (S := fun w' => w'.cell? ⟨gb101, 0, none⟩ = some (.int .i64 a0_0) ∧ w'.cell? ⟨gb101, 1, none⟩ = some (.int .i64 a0_1) ∧ w'.cell? ⟨gb101, 2, none⟩ = some (.int .i64 a0_2) ∧ w'.cell? ⟨gb101, 3, none⟩ = some (.int .i64 a0_3) ∧ w'.cell? ⟨gb101, 4, none⟩ = some (.int .i64 a0_4) ∧ w'.cell? ⟨gb101, 5, none⟩ = some (.int .i64 a0_5) ∧ w'.cell? ⟨gb101, 6, none⟩ = some (.string a0_6) ∧ w'.cell? ⟨gb101, 7, none⟩ = some (.string a0_7)) (ds := [15, 17]) #[false, false, false, false, false, false, false, false, false, false, false, false, false, false, false, false, false, false] (by kernel_rfl) rfl rfl ⟨(blk_cell BK101.out 0).trans rfl, (blk_cell BK101.out 1).trans rfl, (blk_cell BK101.out 2).trans rfl, (blk_cell BK101.out 3).trans rfl, (blk_cell BK101.out 4).trans rfl, (blk_cell BK101.out 5).trans rfl, (blk_cell BK101.out 6).trans rfl, (blk_cell BK101.out 7).trans rfl⟩ (fun hHeld => ?_); refine with_tabW aquiferlaw20_few.tab1 aquiferlaw20_few.bits1 (fun HT_ HW_ => ?_)
          generalize w9.drew = w10 at BK101 BK102 HB hHeld ⊢
          refine pure_ (i := 0) (N := some 3) (v := ?_) (a' := ?_) #[true, false, false, false, false, false, false, false, false, false, false, false, false, false, false, false, false, false] rfl rfl (any_of HT_.out (by kernel_rfl)) (fun _ _ _ h => h) (Or.inl ⟨by rfl, ?_⟩) ?_ ?_
          rotate_left
          · intro w'
            go_simp
            with_reducible rfl
          rotate_left
          · simp only [Act.put, List.setIfInBounds_toArray, List.set_cons_zero, List.set_cons_succ, i64_w, i32_w]
            rfl
          refine pure_ (i := 2) (N := some 5) (v := ?_) (a' := ?_) #[true, false, true, false, false, false, false, false, false, false, false, false, false, false, false, false, false, false] rfl rfl (any_of HT_.out (by kernel_rfl)) (fun _ _ _ h => h) (Or.inl ⟨by rfl, ?_⟩) ?_ ?_
          rotate_left
          · intro w'
            go_simp
            with_reducible rfl
          rotate_left
          · simp only [Act.put, List.setIfInBounds_toArray, List.set_cons_zero, List.set_cons_succ, i64_w, i32_w]
            rfl
          refine pure_ (i := 7) (N := some 10) (v := ?_) (a' := ?_) #[true, false, true, false, false, false, false, true, false, false, false, false, false, false, false, false, false, false] rfl rfl (any_of HT_.out (by kernel_rfl)) (fun _ _ _ h => h) (Or.inl ⟨by rfl, ?_⟩) ?_ ?_
          rotate_left
          · intro w'
            go_simp
            with_reducible rfl
          rotate_left
          · simp only [Act.put, List.setIfInBounds_toArray, List.set_cons_zero, List.set_cons_succ, i64_w, i32_w]
            rfl
          refine pure_ (i := 9) (N := some 12) (v := ?_) (a' := ?_) #[true, false, true, false, false, false, false, true, false, true, false, false, false, false, false, false, false, false] rfl rfl (any_of HT_.out (by kernel_rfl)) (fun _ _ _ h => h) (Or.inl ⟨by rfl, ?_⟩) ?_ ?_
          rotate_left
          · intro w'
            go_simp
            with_reducible rfl
          rotate_left
          · simp only [Act.put, List.setIfInBounds_toArray, List.set_cons_zero, List.set_cons_succ, i64_w, i32_w]
            rfl
          refine take_ (i := 1) (N := some 4) (v := ?_) (a' := ?_) #[true, true, true, false, false, false, false, true, false, true, false, false, false, false, false, false, false, false] rfl rfl (take_ofW HT_.out HW_.out (by kernel_rfl)) (fun _ _ _ h => h) (Or.inl ⟨by rfl, ?_⟩) hHeld ?_ ?_
          rotate_left
          · rintro w' ⟨s0, s1, s2, s3, s4, s5, s6, s7⟩
            go_simp
            with_reducible rfl
          rotate_left
          · simp only [Act.put, List.setIfInBounds_toArray, List.set_cons_zero, List.set_cons_succ, i64_w, i32_w]
            rfl
          refine take_ (i := 3) (N := some 6) (v := ?_) (a' := ?_) #[true, true, true, true, false, false, false, true, false, true, false, false, false, false, false, false, false, false] rfl rfl (take_ofW HT_.out HW_.out (by kernel_rfl)) (fun _ _ _ h => h) (Or.inl ⟨by rfl, ?_⟩) hHeld ?_ ?_
          rotate_left
          · rintro w' ⟨s0, s1, s2, s3, s4, s5, s6, s7⟩
            go_simp
            with_reducible rfl
          rotate_left
          · simp only [Act.put, List.setIfInBounds_toArray, List.set_cons_zero, List.set_cons_succ, i64_w, i32_w]
            rfl
          refine pure_ (i := 4) (N := some 7) (v := ?_) (a' := ?_) #[true, true, true, true, true, false, false, true, false, true, false, false, false, false, false, false, false, false] rfl rfl (any_of HT_.out (by kernel_rfl)) (fun _ _ _ h => h) (Or.inl ⟨by rfl, ?_⟩) ?_ ?_
          rotate_left
          · intro w'
            go_simp
            with_reducible rfl
          rotate_left
          · simp only [Act.put, List.setIfInBounds_toArray, List.set_cons_zero, List.set_cons_succ, i64_w, i32_w]
            rfl
          refine pure_ (i := 5) (N := some 8) (v := ?_) (a' := ?_) #[true, true, true, true, true, true, false, true, false, true, false, false, false, false, false, false, false, false] rfl rfl (any_of HT_.out (by kernel_rfl)) (fun _ _ _ h => h) (Or.inl ⟨by rfl, ?_⟩) ?_ ?_
          rotate_left
          · intro w'
            go_simp
            with_reducible rfl
          rotate_left
          · simp only [Act.put, List.setIfInBounds_toArray, List.set_cons_zero, List.set_cons_succ, i64_w, i32_w]
            rfl
          refine pure_ (i := 6) (N := some 9) (v := ?_) (a' := ?_) #[true, true, true, true, true, true, true, true, false, true, false, false, false, false, false, false, false, false] rfl rfl (any_of HT_.out (by kernel_rfl)) (fun _ _ _ h => h) (Or.inl ⟨by rfl, ?_⟩) ?_ ?_
          rotate_left
          · intro w'
            go_simp
            with_reducible rfl
          rotate_left
          · simp only [Act.put, List.setIfInBounds_toArray, List.set_cons_zero, List.set_cons_succ, i64_w, i32_w]
            rfl
          refine take_ (i := 8) (N := some 11) (v := ?_) (a' := ?_) #[true, true, true, true, true, true, true, true, true, true, false, false, false, false, false, false, false, false] rfl rfl (take_ofW HT_.out HW_.out (by kernel_rfl)) (fun _ _ _ h => h) (Or.inl ⟨by rfl, ?_⟩) hHeld ?_ ?_
          rotate_left
          · rintro w' ⟨s0, s1, s2, s3, s4, s5, s6, s7⟩
            go_simp
            with_reducible rfl
          rotate_left
          · simp only [Act.put, List.setIfInBounds_toArray, List.set_cons_zero, List.set_cons_succ, i64_w, i32_w]
            rfl
          refine take_ (i := 10) (N := some 13) (v := ?_) (a' := ?_) #[true, true, true, true, true, true, true, true, true, true, true, false, false, false, false, false, false, false] rfl rfl (take_ofW HT_.out HW_.out (by kernel_rfl)) (fun _ _ _ h => h) (Or.inl ⟨by rfl, ?_⟩) hHeld ?_ ?_
          rotate_left
          · rintro w' ⟨s0, s1, s2, s3, s4, s5, s6, s7⟩
            go_simp
            with_reducible rfl
          rotate_left
          · simp only [Act.put, List.setIfInBounds_toArray, List.set_cons_zero, List.set_cons_succ, i64_w, i32_w]
            rfl
          refine pure_ (i := 11) (N := some 14) (v := ?_) (a' := ?_) #[true, true, true, true, true, true, true, true, true, true, true, true, false, false, false, false, false, false] rfl rfl (any_of HT_.out (by kernel_rfl)) (fun _ _ _ h => h) (Or.inl ⟨by rfl, ?_⟩) ?_ ?_
          rotate_left
          · intro w'
            go_simp
            with_reducible rfl
          rotate_left
          · simp only [Act.put, List.setIfInBounds_toArray, List.set_cons_zero, List.set_cons_succ, i64_w, i32_w]
            rfl
          refine pure_ (i := 12) (N := some 15) (v := ?_) (a' := ?_) #[true, true, true, true, true, true, true, true, true, true, true, true, true, false, false, false, false, false] rfl rfl (any_of HT_.out (by kernel_rfl)) (fun _ _ _ h => h) (Or.inl ⟨by rfl, ?_⟩) ?_ ?_
          rotate_left
          · intro w'
            go_simp
            with_reducible rfl
          rotate_left
          · simp only [Act.put, List.setIfInBounds_toArray, List.set_cons_zero, List.set_cons_succ, i64_w, i32_w]
            rfl
          refine pure_ (i := 13) (N := some 16) (v := ?_) (a' := ?_) #[true, true, true, true, true, true, true, true, true, true, true, true, true, true, false, false, false, false] rfl rfl (any_of HT_.out (by kernel_rfl)) (fun _ _ _ h => h) (Or.inl ⟨by rfl, ?_⟩) ?_ ?_
          rotate_left
          · intro w'
            go_simp
            with_reducible rfl
          rotate_left
          · simp only [Act.put, List.setIfInBounds_toArray, List.set_cons_zero, List.set_cons_succ, i64_w, i32_w]
            rfl
          refine pure_ (i := 14) (N := some 17) (v := ?_) (a' := ?_) #[true, true, true, true, true, true, true, true, true, true, true, true, true, true, true, false, false, false] rfl rfl (any_of HT_.out (by kernel_rfl)) (fun _ _ _ h => h) (Or.inl ⟨by rfl, ?_⟩) ?_ ?_
          rotate_left
          · intro w'
            go_simp
            with_reducible rfl
          rotate_left
          · simp only [Act.put, List.setIfInBounds_toArray, List.set_cons_zero, List.set_cons_succ, i64_w, i32_w]
            rfl
          refine last_ (i := 15) (N := none) #[true, true, true, true, true, true, true, true, true, true, true, true, true, true, true, true, false, false] rfl rfl (one_of HT_.out (by kernel_rfl)) (by decide) (fun K hK => ?_)
          have hs11 : w10.cell? ⟨gb101, 6, none⟩ = some (.string a0_6) := (blk_cell BK101.out 6).trans rfl
          have hfs11 := blk_frozen BK101.out 6
          have hns11_1 := NB102_101.out
          have hms11_1 := NB101_102.out
          refine skip_ (w1 := ?_) (by rfl) rfl ?_ ?_
          rotate_left
          · go_simp
            rfl
          refine hK.out _ _ ?_
          clear hK K
          refine pure_ (i := 16) (N := some 18) (v := ?_) (a' := ?_) #[true, true, true, true, true, true, true, true, true, true, true, true, true, true, true, true, true, false] rfl rfl (any_of HT_.out (by kernel_rfl)) (fun _ _ _ h => h) (Or.inl ⟨by rfl, ?_⟩) ?_ ?_
          rotate_left
          · intro w'
            go_simp
            with_reducible rfl
          rotate_left
          · simp only [Act.put, List.setIfInBounds_toArray, List.set_cons_zero, List.set_cons_succ, i64_w, i32_w]
            rfl
          refine last_ (i := 17) (N := none) #[true, true, true, true, true, true, true, true, true, true, true, true, true, true, true, true, true, true] rfl rfl (one_of HT_.out (by kernel_rfl)) (by decide) (fun K hK => ?_)
          have hs12 : w10.cell? ⟨gb101, 7, none⟩ = some (.string a0_7) := (blk_cell BK101.out 7).trans rfl
          have hfs12 := blk_frozen BK101.out 7
          have hns12_1 := NB102_101.out
          have hms12_1 := NB101_102.out
          refine skip_ (w1 := ?_) (by rfl) rfl ?_ ?_
          rotate_left
          · go_simp
            rfl
          refine hK.out _ _ ?_
          clear hK K
          refine done_ (done_of HT_.out (by kernel_rfl)) ?_
          have hnb13 := NB101_102.out
          have hnc13 := NB102_101.out
          have hcz14_0 : w10.cell? ⟨gb101, 0, none⟩ = some (.int .i64 a0_0) := (blk_cell BK101.out 0).trans rfl
          have hcz14_1 : w10.cell? ⟨gb101, 1, none⟩ = some (.int .i64 a0_1) := (blk_cell BK101.out 1).trans rfl
          have hcz14_2 : w10.cell? ⟨gb101, 2, none⟩ = some (.int .i64 a0_2) := (blk_cell BK101.out 2).trans rfl
          have hcz14_3 : w10.cell? ⟨gb101, 3, none⟩ = some (.int .i64 a0_3) := (blk_cell BK101.out 3).trans rfl
          have hcz14_4 : w10.cell? ⟨gb101, 4, none⟩ = some (.int .i64 a0_4) := (blk_cell BK101.out 4).trans rfl
          have hcz14_5 : w10.cell? ⟨gb101, 5, none⟩ = some (.int .i64 a0_5) := (blk_cell BK101.out 5).trans rfl
          have hcz14_6 : w10.cell? ⟨gb101, 6, none⟩ = some (.string a0_6) := (blk_cell BK101.out 6).trans rfl
          have hcz14_7 : w10.cell? ⟨gb101, 7, none⟩ = some (.string a0_7) := (blk_cell BK101.out 7).trans rfl
          have hfz14_0 := blk_frozen BK101.out 0
          have hfz14_1 := blk_frozen BK101.out 1
          have hfz14_2 := blk_frozen BK101.out 2
          have hfz14_3 := blk_frozen BK101.out 3
          have hfz14_4 := blk_frozen BK101.out 4
          have hfz14_5 := blk_frozen BK101.out 5
          have hfz14_6 := blk_frozen BK101.out 6
          have hfz14_7 := blk_frozen BK101.out 7
          have hcz15_0 : w10.cell? ⟨gb102, 0, none⟩ = some (.int .i64 0) := (blk_cell BK102.out 0).trans rfl
          have hcz15_1 : w10.cell? ⟨gb102, 1, none⟩ = some (.int .i64 0) := (blk_cell BK102.out 1).trans rfl
          have hcz15_2 : w10.cell? ⟨gb102, 2, none⟩ = some (.int .i64 0) := (blk_cell BK102.out 2).trans rfl
          have hcz15_3 : w10.cell? ⟨gb102, 3, none⟩ = some (.int .i64 0) := (blk_cell BK102.out 3).trans rfl
          have hcz15_4 : w10.cell? ⟨gb102, 4, none⟩ = some (.int .i64 0) := (blk_cell BK102.out 4).trans rfl
          have hcz15_5 : w10.cell? ⟨gb102, 5, none⟩ = some (.int .i64 0) := (blk_cell BK102.out 5).trans rfl
          have hcz15_6 : w10.cell? ⟨gb102, 6, none⟩ = some (.string (⟨#[]⟩ : ByteArray)) := (blk_cell BK102.out 6).trans rfl
          have hcz15_7 : w10.cell? ⟨gb102, 7, none⟩ = some (.string (⟨#[]⟩ : ByteArray)) := (blk_cell BK102.out 7).trans rfl
          have hfz15_0 := blk_frozen BK102.out 0
          have hfz15_1 := blk_frozen BK102.out 1
          have hfz15_2 := blk_frozen BK102.out 2
          have hfz15_3 := blk_frozen BK102.out 3
          have hfz15_4 := blk_frozen BK102.out 4
          have hfz15_5 := blk_frozen BK102.out 5
          have hfz15_6 := blk_frozen BK102.out 6
          have hfz15_7 := blk_frozen BK102.out 7
          try go_wp2
          refine bodyPost_ret (results_cell_row rfl _ _ gb102 23 #[.int .i64 a0_0, .int .i64 a0_1, .int .i64 a0_2, .int .i64 a0_3, .int .i64 a0_4, .int .i64 a0_5, .string (a0_6.extract 0 ((ji2) : Int).toNat), .string (a0_7.extract 0 ((ji5) : Int).toNat)] (0, 0) _ rfl (by (with_reducible repeat (first | refine blk_drewN ?_ _ | refine blk_drew ?_ | refine blk_alloc ?_ _)); refine blk_put (cs := #[.int .i64 a0_0, .int .i64 a0_1, .int .i64 a0_2, .int .i64 a0_3, .int .i64 a0_4, .int .i64 a0_5, .string (a0_6.extract 0 ((ji2) : Int).toNat), .string (⟨#[]⟩ : ByteArray)]) ?_ 7 _ rfl; (with_reducible repeat (first | refine blk_drewN ?_ _ | refine blk_drew ?_ | refine blk_alloc ?_ _)); refine blk_put (cs := #[.int .i64 a0_0, .int .i64 a0_1, .int .i64 a0_2, .int .i64 a0_3, .int .i64 a0_4, .int .i64 a0_5, .string (⟨#[]⟩ : ByteArray), .string (⟨#[]⟩ : ByteArray)]) ?_ 6 _ rfl; (with_reducible repeat (first | refine blk_drewN ?_ _ | refine blk_drew ?_ | refine blk_alloc ?_ _)); refine blk_put (cs := #[.int .i64 a0_0, .int .i64 a0_1, .int .i64 a0_2, .int .i64 a0_3, .int .i64 a0_4, .int .i64 0, .string (⟨#[]⟩ : ByteArray), .string (⟨#[]⟩ : ByteArray)]) ?_ 5 _ rfl; (with_reducible repeat (first | refine blk_drewN ?_ _ | refine blk_drew ?_ | refine blk_alloc ?_ _)); refine blk_put (cs := #[.int .i64 a0_0, .int .i64 a0_1, .int .i64 a0_2, .int .i64 a0_3, .int .i64 0, .int .i64 0, .string (⟨#[]⟩ : ByteArray), .string (⟨#[]⟩ : ByteArray)]) ?_ 4 _ rfl; (with_reducible repeat (first | refine blk_drewN ?_ _ | refine blk_drew ?_ | refine blk_alloc ?_ _)); refine blk_put (cs := #[.int .i64 a0_0, .int .i64 a0_1, .int .i64 a0_2, .int .i64 0, .int .i64 0, .int .i64 0, .string (⟨#[]⟩ : ByteArray), .string (⟨#[]⟩ : ByteArray)]) ?_ 3 _ rfl; (with_reducible repeat (first | refine blk_drewN ?_ _ | refine blk_drew ?_ | refine blk_alloc ?_ _)); refine blk_put (cs := #[.int .i64 a0_0, .int .i64 a0_1, .int .i64 0, .int .i64 0, .int .i64 0, .int .i64 0, .string (⟨#[]⟩ : ByteArray), .string (⟨#[]⟩ : ByteArray)]) ?_ 2 _ rfl; (with_reducible repeat (first | refine blk_drewN ?_ _ | refine blk_drew ?_ | refine blk_alloc ?_ _)); refine blk_put (cs := #[.int .i64 a0_0, .int .i64 0, .int .i64 0, .int .i64 0, .int .i64 0, .int .i64 0, .string (⟨#[]⟩ : ByteArray), .string (⟨#[]⟩ : ByteArray)]) ?_ 1 _ rfl; (with_reducible repeat (first | refine blk_drewN ?_ _ | refine blk_drew ?_ | refine blk_alloc ?_ _)); refine blk_put (cs := #[.int .i64 0, .int .i64 0, .int .i64 0, .int .i64 0, .int .i64 0, .int .i64 0, .string (⟨#[]⟩ : ByteArray), .string (⟨#[]⟩ : ByteArray)]) ?_ 0 _ rfl; (with_reducible repeat (first | refine blk_drewN ?_ _ | refine blk_drew ?_ | refine blk_alloc ?_ _)); refine blk_far ?_ NB102_101.out _; (with_reducible repeat (first | refine blk_drewN ?_ _ | refine blk_drew ?_ | refine blk_alloc ?_ _)); refine blk_far ?_ NB102_101.out _; (with_reducible repeat (first | refine blk_drewN ?_ _ | refine blk_drew ?_ | refine blk_alloc ?_ _)); exact BK102.out) Try.underlying23 rfl (by kernel_rfl)) rfl ?_
          exact ⟨by first | rfl | (simp [errW_none, errW_some] <;> rfl) | (simp only [← hji2, ← hji5]; first | rfl | (simp [errW_none, errW_some] <;> rfl)) | (simp [*, errW_none, errW_some] <;> rfl), belG2 HB.out GE101.out GE102.out⟩
        · rw [if_neg c7] at H
          exact absurd H (by simp)
      · rw [if_neg c6] at H
        exact absurd H (by simp)
    · rw [if_neg c4] at H
      exact absurd H (by simp)
  · rw [if_neg c3] at H
    exact absurd H (by simp)

end Go.Proofs.Ytjaneipklpgnlaa.Q

namespace Go.Proofs.Ytjaneipklpgnlaa.Q
open Go.RowKit Go.Proofs.YtjaneipklpgnlaaW.PrintWords Go.Proofs.YtjaneipklpgnlaaW.PrintLast Go.Proofs.YtjaneipklpgnlaaW.PrintMore Go.Proofs.YtjaneipklpgnlaaK
attribute [local go_sem] max2_int min2_int max_two min_two max_three min_three max_four min_four   -- for this text's walks alone
attribute [local go_sem ↓] Go.Proofs.YtjaneipklpgnlaaK.isSome_setCell
set_option linter.unusedVariables false
set_option linter.unusedSimpArgs false

/-! ### aquiferlaw20_works: function 15 -/
def aquiferlaw20_works.f  : Option (Bool) := (talk_Request.f 7 5 0 0 0 0 (⟨#[]⟩ : ByteArray) (⟨#[]⟩ : ByteArray)).bind fun bt293 => (if bt293.1.toList = ([2, 7, 4, 5] : List UInt8) then (some (bt293.2 == 0)) else (some false))
set_option maxHeartbeats 8000000 in
set_option maxRecDepth 100000 in
theorem aquiferlaw20_works.calls  (r : Bool) (w : World) (h : aquiferlaw20_works.f  = some r) :
    Calls Try.prog 15 #[] w fun e w' => e = .returned (.bool r) ∧ Below w.heap.size w w' := by
  have hu23 := Try.underlying23
  have HB := Aside0.mk (Below.refl w.heap.size w)
  have H : ((talk_Request.f 7 5 0 0 0 0 (⟨#[]⟩ : ByteArray) (⟨#[]⟩ : ByteArray)).bind fun bt293 => (if bt293.1.toList = ([2, 7, 4, 5] : List UInt8) then (some (bt293.2 == 0)) else (some false))) = some r := h
  clear h
  replace H := Option.bind_eq_some_iff.mp H
  obtain ⟨⟨t293, t294⟩, A10, H⟩ := H
  replace H : (if t293.toList = ([2, 7, 4, 5] : List UInt8) then (some (t294 == 0)) else (some false)) = some r := H
  have A1 := Aside0.mk A10
  clear A10
  by_cases c2 : t293.toList = ([2, 7, 4, 5] : List UInt8)
  · rw [if_pos c2] at H
    have c2b0 : (t293.toList == ([2, 7, 4, 5] : List UInt8)) = true := beq_iff_eq.mpr c2
    have c2b1 : (t293.toList != ([2, 7, 4, 5] : List UInt8)) = false := bne_eq_false_iff_eq.mpr c2
    clear c2
    obtain rfl := Option.some.inj H
    go_enter Try.func15, Try.ntmps15
    go_wp2_with (first | ((with_reducible refine gate_callee (f := 9) rfl ?_); refine goesL_ (some 5) rfl rfl Try.func9 (by kernel_rfl) rfl #[.agg #[.int .i64 7, .int .i64 5, .int .i64 0, .int .i64 0, .int .i64 0, .int .i64 0, .string (⟨#[]⟩ : ByteArray), .string (⟨#[]⟩ : ByteArray)]] rfl (by (try simp only [List.map_toArray, List.map_cons, List.map_nil]); first | done | rfl | (simp only [List.length_drop, List.length_take]; rfl)) ?_; (with_reducible refine (talk_Request.calls 7 5 0 0 0 0 (⟨#[]⟩ : ByteArray) (⟨#[]⟩ : ByteArray) t293 t294 _ A1.out).mono ?_); rintro e w3 ⟨rfl, hb⟩; refine ⟨_, rfl, ?_⟩; have n0_ := Aside0.mk (below_step (belU HB.out) hb); clear HB; have HB := n0_; clear n0_; (try clear hb); (try clear hb2); (try clear hk); (try clear hi)))
    go_ret
    exact ⟨by first | rfl | (simp [errW_none, errW_some] <;> rfl) | (simp [*, errW_none, errW_some] <;> rfl), belU HB.out⟩
  · rw [if_neg c2] at H
    have c2b0 : (t293.toList == ([2, 7, 4, 5] : List UInt8)) = false := beq_eq_false_iff_ne.mpr c2
    have c2b1 : (t293.toList != ([2, 7, 4, 5] : List UInt8)) = true := bne_iff_ne.mpr c2
    obtain rfl := Option.some.inj H
    go_enter Try.func15, Try.ntmps15
    go_wp2_with (first | ((with_reducible refine gate_callee (f := 9) rfl ?_); refine goesL_ (some 5) rfl rfl Try.func9 (by kernel_rfl) rfl #[.agg #[.int .i64 7, .int .i64 5, .int .i64 0, .int .i64 0, .int .i64 0, .int .i64 0, .string (⟨#[]⟩ : ByteArray), .string (⟨#[]⟩ : ByteArray)]] rfl (by (try simp only [List.map_toArray, List.map_cons, List.map_nil]); first | done | rfl | (simp only [List.length_drop, List.length_take]; rfl)) ?_; (with_reducible refine (talk_Request.calls 7 5 0 0 0 0 (⟨#[]⟩ : ByteArray) (⟨#[]⟩ : ByteArray) t293 t294 _ A1.out).mono ?_); rintro e w4 ⟨rfl, hb⟩; refine ⟨_, rfl, ?_⟩; have n0_ := Aside0.mk (below_step (belU HB.out) hb); clear HB; have HB := n0_; clear n0_; (try clear hb); (try clear hb2); (try clear hk); (try clear hi)))
    go_ret
    exact ⟨by first | rfl | (simp [errW_none, errW_some] <;> rfl) | (simp [*, errW_none, errW_some] <;> rfl), belU HB.out⟩

end Go.Proofs.Ytjaneipklpgnlaa.Q

namespace Go.Proofs.Ytjaneipklpgnlaa.Q
open Go Go.RowKit Go.Proofs.YtjaneipklpgnlaaW.PrintWords Go.Proofs.YtjaneipklpgnlaaW.PrintLast Go.Proofs.YtjaneipklpgnlaaW.PrintMore
set_option linter.unusedSimpArgs false
set_option linter.unusedVariables false
theorem tworks_fn : aquiferlaw20_works.f = some true := by
  unfold aquiferlaw20_works.f talk_Request.f
  decide +kernel
def cutR (r : S23) : S23 := ⟨r.f0, r.f1, r.f2, r.f3, r.f4, r.f5, r.f6.extract 0 (mn (r.f6.size : Int) 4100).toNat, r.f7.extract 0 (mn (r.f7.size : Int) 4100).toNat⟩
theorem few_fn (r : S23) : aquiferlaw20_few.f r.f0 r.f1 r.f2 r.f3 r.f4 r.f5 r.f6 r.f7 = some ((cutR r).f0, (cutR r).f1, (cutR r).f2, (cutR r).f3, (cutR r).f4, (cutR r).f5, (cutR r).f6, (cutR r).f7) := by
  have h6 : 0 ≤ mn (r.f6.size : Int) 4100 ∧ mn (r.f6.size : Int) 4100 ≤ (r.f6.size : Int) := by unfold mn; split <;> omega
  have h7 : 0 ≤ mn (r.f7.size : Int) 4100 ∧ mn (r.f7.size : Int) 4100 ≤ (r.f7.size : Int) := by unfold mn; split <;> omega
  unfold aquiferlaw20_few.f
  rw [if_pos h6.1, if_pos h6.2, if_pos h7.1, if_pos h7.2]
  rfl
end Go.Proofs.Ytjaneipklpgnlaa.Q

namespace Go.Proofs.Ytjaneipklpgnlaa.Q
open Go Go.RowKit Go.Proofs.YtjaneipklpgnlaaW.PrintWords Go.Proofs.YtjaneipklpgnlaaW.PrintLast Go.Proofs.YtjaneipklpgnlaaW.PrintMore
set_option linter.unusedSimpArgs false
set_option linter.unusedVariables false
/-! ### Requests and their bytes -/
theorem rr_ok (s : ByteArray) (h : (rrS s).2 = 0) : (reqS (rrS s).1).2 = 0 ∧ (reqS (rrS s).1).1.toList = s.toList := by
  unfold rrS at h ⊢
  by_cases hd : (decS s).2 = 0
  · rw [if_pos hd] at h ⊢
    by_cases hk : (reqS (reqOf (decS s).1)).2 = 0 ∧ (reqS (reqOf (decS s).1)).1.toList = s.toList
    · rw [if_pos hk]
      exact hk
    · rw [if_neg hk] at h
      exact absurd h (by decide)
  · rw [if_neg hd] at h
    exact absurd h (by decide)
theorem rr_bad (s : ByteArray) (h : (rrS s).2 ≠ 0) : rrS s = (req0, 5) := by
  unfold rrS at h ⊢
  by_cases hd : (decS s).2 = 0
  · rw [if_pos hd] at h ⊢
    by_cases hk : (reqS (reqOf (decS s).1)).2 = 0 ∧ (reqS (reqOf (decS s).1)).1.toList = s.toList
    · rw [if_pos hk] at h
      exact absurd rfl h
    · rw [if_neg hk]
  · rw [if_neg hd]
theorem req_ok (r : S23) (h : (reqS r).2 = 0) : reqOk r = true := by
  unfold reqS at h
  by_cases hk : reqOk r = true
  · exact hk
  · rw [if_neg hk] at h
    exact absurd h (by decide)
theorem req_enc (r : S23) (h : (reqS r).2 = 0) : encGo (reqL r) 0 [] = ((reqS r).1, 0) := by
  have hk := req_ok r h
  unfold reqS at h ⊢
  rw [if_pos hk] at h ⊢
  exact Prod.ext rfl h
theorem reqOk_kind (r : S23) (h : reqOk r = true) : 1 ≤ r.f0 := by
  unfold reqOk at h
  simp only [Bool.and_eq_true] at h
  exact of_decide_eq_true h.1.1.1.1.1.1.1.1
theorem req_len (r : S23) (h : (reqS r).2 = 0) : 0 < (reqS r).1.size := by
  obtain ⟨_, _, hs⟩ := (enc_iff (reqL r) _).1 (req_enc r h)
  have h1 := flat_ge (reqL r)
  have h2 : 1 ≤ (reqL r).length := by
    have hk := reqOk_kind r (req_ok r h)
    have hn : r.f0 ≠ 0 := by omega
    unfold reqL
    simp [layN, hn]
  rw [hs, size_mkS]
  omega
theorem req_err (r : S23) (h : (reqS r).2 ≠ 0) : (reqS r).1.toList = [] := by
  unfold reqS at h ⊢
  by_cases hk : reqOk r = true
  · rw [if_pos hk] at h ⊢
    by_cases hv : valid (reqL r) 0
    · rw [enc_valid (reqL r) 0 [] hv] at h ⊢
      split at h
      · rename_i hc
        rw [if_pos hc]
        decide +kernel
      · exact absurd rfl h
    · obtain ⟨e, _, he⟩ := enc_invalid (reqL r) 0 [] hv
      rw [he]
      show (⟨#[]⟩ : ByteArray).toList = []
      decide +kernel
  · rw [if_neg hk]
    decide +kernel
def eqB (a b : S23) : Bool := a.f0 == b.f0 && (a.f1 == b.f1 && (a.f2 == b.f2 && (a.f3 == b.f3 && (a.f4 == b.f4 && (a.f5 == b.f5 && (a.f6.toList == b.f6.toList && (a.f7.toList == b.f7.toList)))))))
theorem tl_inj {a b : ByteArray} (h : a.toList = b.toList) : a = b := by
  rw [ByteArray.toList_eq, ByteArray.toList_eq] at h
  exact Go.WideShapes.bytes_inj h
theorem eqB_iff (a b : S23) : eqB a b = true ↔ a = b := by
  obtain ⟨a0, a1, a2, a3, a4, a5, a6, a7⟩ := a
  obtain ⟨b0, b1, b2, b3, b4, b5, b6, b7⟩ := b
  simp only [eqB, Bool.and_eq_true, beq_iff_eq, S23.mk.injEq]
  constructor
  · rintro ⟨h0, h1, h2, h3, h4, h5, h6, h7⟩
    exact ⟨h0, h1, h2, h3, h4, h5, tl_inj h6, tl_inj h7⟩
  · rintro ⟨rfl, rfl, rfl, rfl, rfl, rfl, rfl, rfl⟩
    exact ⟨rfl, rfl, rfl, rfl, rfl, rfl, rfl, rfl⟩
theorem rr_ne (r : S23) (s : ByteArray) (h : (reqS r).2 = 0) (hs : (reqS r).1.toList ≠ s.toList) : eqB (rrS s).1 r = false := by
  rw [Bool.eq_false_iff]
  intro e
  rw [eqB_iff] at e
  by_cases hr : (rrS s).2 = 0
  · have h2 := (rr_ok s hr).2
    rw [e] at h2
    exact hs h2
  · rw [rr_bad s hr] at e
    have hk := reqOk_kind r (req_ok r h)
    rw [← e] at hk
    exact absurd hk (by decide)
theorem bits_ne (x y : Int) (h0 : 0 ≤ x) (h1 : x ≤ 255) : bits .xor .u8 x (bits .or .u8 y 1) ≠ x := by
  have hw : ∀ c : BitVec 8, IntKind.wrap .u8 (c.toNat : Int) = (c.toNat : Int) := by
    intro c
    have := c.isLt
    simp only [IntKind.wrap, IntKind.signed, IntKind.bits, Bool.false_and]
    simp
    omega
  have hb : ∀ c : BitVec 8, BitVec.ofInt 8 (c.toNat : Int) = c := by
    intro c
    apply BitVec.eq_of_toNat_eq
    simp [BitVec.toNat_ofInt]
    try (have := c.isLt; omega)
  have e1 : bits .or .u8 y 1 = ((BitVec.ofInt 8 y ||| 1#8).toNat : Int) := hw _
  have e2 : bits .xor .u8 x (bits .or .u8 y 1) = ((BitVec.ofInt 8 x ^^^ (BitVec.ofInt 8 y ||| 1#8)).toNat : Int) := by
    rw [e1]
    show IntKind.wrap .u8 ((BitVec.ofInt 8 x ^^^ BitVec.ofInt 8 (((BitVec.ofInt 8 y ||| 1#8).toNat : Nat) : Int)).toNat : Int) = _
    rw [hb, hw]
  rw [e2]
  intro hc
  have hx : ((BitVec.ofInt 8 x).toNat : Int) = x := by
    simp [BitVec.toNat_ofInt]
    omega
  have h3 : (BitVec.ofInt 8 x ^^^ (BitVec.ofInt 8 y ||| 1#8)) = BitVec.ofInt 8 x := by
    apply BitVec.eq_of_toNat_eq
    omega
  have h4 : (BitVec.ofInt 8 y ||| 1#8) = 0#8 := by
    have := congrArg (fun z => BitVec.ofInt 8 x ^^^ z) h3
    simp only [← BitVec.xor_assoc, BitVec.xor_self, BitVec.zero_xor] at this
    exact this
  have h5 := congrArg (fun z : BitVec 8 => z.getLsbD 0) h4
  simp at h5
theorem bits_rng (op : BinOp) (x y : Int) : 0 ≤ bits op .u8 x y ∧ bits op .u8 x y ≤ 255 := by
  have := wf_bits op .u8 x y
  simp [Lit.wf, IntKind.min, IntKind.max, IntKind.signed, IntKind.bits] at this
  omega
end Go.Proofs.Ytjaneipklpgnlaa.Q

namespace Go.Proofs.Ytjaneipklpgnlaa.Q
open Go Go.RowKit Go.Proofs.YtjaneipklpgnlaaW.PrintWords Go.Proofs.YtjaneipklpgnlaaW.PrintLast Go.Proofs.YtjaneipklpgnlaaW.PrintMore
set_option linter.unusedSimpArgs false
set_option linter.unusedVariables false
/-! ### Fields that are laid: they may be, and are found again -/
/-- All tags of a list lie from lo on, below hi. -/
def tagsIn (lo hi : Int) (L : List S84) : Prop := ∀ f ∈ L, lo ≤ f.f0 ∧ f.f0 < hi
theorem tagsIn_nil (lo hi : Int) : tagsIn lo hi [] := fun f hf => by simp at hf
theorem tagsIn_append {lo hi : Int} {A B : List S84} (ha : tagsIn lo hi A) (hb : tagsIn lo hi B) : tagsIn lo hi (A ++ B) := fun f hf => by
  rcases List.mem_append.1 hf with h | h
  · exact ha f h
  · exact hb f h
theorem tagsIn_mono {lo hi lo' hi' : Int} {A : List S84} (h : tagsIn lo hi A) (h1 : lo' ≤ lo) (h2 : hi ≤ hi') : tagsIn lo' hi' A := fun f hf => by
  have := h f hf
  omega
theorem layN_tags (l : List Int) : ∀ t : Int, tagsIn t (t + l.length) (layN t l) := by
  induction l with
  | nil => intro t; exact tagsIn_nil _ _
  | cons n l ih =>
    intro t
    have h2 := ih (t + 1)
    simp only [List.length_cons]
    unfold layN
    refine tagsIn_append ?_ (tagsIn_mono h2 (by omega) (by omega))
    split
    · exact tagsIn_nil _ _
    · intro f hf
      simp only [List.mem_singleton] at hf
      subst hf
      show t ≤ t ∧ t < _
      omega
theorem layT_tags (l : List ByteArray) : ∀ t : Int, tagsIn t (t + l.length) (layT t l) := by
  induction l with
  | nil => intro t; exact tagsIn_nil _ _
  | cons n l ih =>
    intro t
    have h2 := ih (t + 1)
    simp only [List.length_cons]
    unfold layT
    refine tagsIn_append ?_ (tagsIn_mono h2 (by omega) (by omega))
    split
    · exact tagsIn_nil _ _
    · intro f hf
      simp only [List.mem_singleton] at hf
      subst hf
      show t ≤ t ∧ t < _
      omega
/-- A list that may stand behind any tag of at most t. -/
def VB (L : List S84) (t : Int) : Prop := ∀ b, b ≤ t → valid L b
theorem VB_nil (t : Int) : VB [] t := fun _ _ => trivial
theorem VB_append {A B : List S84} {t t' : Int} (ha : VB A t) (ht : t ≤ t') (hA : ∀ f ∈ A, f.f0 ≤ t') (hb : VB B t') : VB (A ++ B) t := by
  intro b hbt
  have h1 := ha b hbt
  clear ha
  induction A generalizing b t with
  | nil => exact hb b (by omega)
  | cons f A ih =>
    refine ⟨h1.1, ?_⟩
    exact ih (t := f.f0) (hA f (by simp)) (fun g hg => hA g (by simp [hg])) f.f0 (Int.le_refl _) h1.2
theorem VB_one {f : S84} {t : Int} (h1 : ¬ bad f) (h2 : (f.f3.size : Int) ≤ 4096) (ht : t ≤ f.f0) : VB [f] t := by
  intro b hb
  refine ⟨?_, trivial⟩
  unfold fault
  rw [if_neg h1, if_neg (by omega), if_neg (by omega)]
theorem fldN_ok {t n : Int} (ht0 : 1 ≤ t) (ht1 : t ≤ 63) (hn : badN n = false) : ¬ bad (fldN t n) ∧ ((fldN t n).f3.size : Int) ≤ 4096 := by
  unfold badN at hn
  simp only [Bool.or_eq_false_iff, decide_eq_false_iff_not] at hn
  refine ⟨?_, ?_⟩
  · rw [bad_iff]
    refine ⟨ht0, ht1, .inl ⟨rfl, ?_, by show 0 ≤ n; omega, by show n ≤ _; omega⟩⟩
    show (⟨#[]⟩ : ByteArray).toList = []
    decide +kernel
  · show ((⟨#[]⟩ : ByteArray).size : Int) ≤ 4096
    decide
theorem fldT_ok {t : Int} {s : ByteArray} (ht0 : 1 ≤ t) (ht1 : t ≤ 63) (hs : badT s = false) : ¬ bad (fldT t s) ∧ ((fldT t s).f3.size : Int) ≤ 4096 := by
  unfold badT at hs
  simp only [decide_eq_false_iff_not] at hs
  refine ⟨?_, ?_⟩
  · rw [bad_iff]
    exact ⟨ht0, ht1, .inr ⟨rfl, rfl⟩⟩
  · show (s.size : Int) ≤ 4096
    omega
theorem layN_VB (l : List Int) : ∀ t : Int, 1 ≤ t → t + l.length ≤ 64 → (∀ n ∈ l, badN n = false) → VB (layN t l) t := by
  induction l with
  | nil => intro t _ _ _; exact VB_nil t
  | cons n l ih =>
    intro t h1 h2 h3
    simp only [List.length_cons] at h2
    have hr := ih (t + 1) (by omega) (by omega) (fun m hm => h3 m (by simp [hm]))
    unfold layN
    by_cases h0 : n = 0
    · rw [if_pos h0, List.nil_append]
      exact fun b hb => hr b (by omega)
    · rw [if_neg h0]
      obtain ⟨k1, k2⟩ := fldN_ok h1 (show t ≤ 63 by omega) (h3 n (by simp))
      refine VB_append (t' := t) (VB_one k1 k2 (Int.le_refl _)) (Int.le_refl _) ?_ (fun b hb => hr b (by omega))
      intro f hf
      simp only [List.mem_singleton] at hf
      subst hf
      exact Int.le_refl _
theorem layT_VB (l : List ByteArray) : ∀ t : Int, 1 ≤ t → t + l.length ≤ 64 → (∀ n ∈ l, badT n = false) → VB (layT t l) t := by
  induction l with
  | nil => intro t _ _ _; exact VB_nil t
  | cons n l ih =>
    intro t h1 h2 h3
    simp only [List.length_cons] at h2
    have hr := ih (t + 1) (by omega) (by omega) (fun m hm => h3 m (by simp [hm]))
    unfold layT
    by_cases h0 : n.toList = []
    · rw [if_pos h0, List.nil_append]
      exact fun b hb => hr b (by omega)
    · rw [if_neg h0]
      obtain ⟨k1, k2⟩ := fldT_ok h1 (show t ≤ 63 by omega) (h3 n (by simp))
      refine VB_append (t' := t) (VB_one k1 k2 (Int.le_refl _)) (Int.le_refl _) ?_ (fun b hb => hr b (by omega))
      intro f hf
      simp only [List.mem_singleton] at hf
      subst hf
      exact Int.le_refl _
theorem valid_size {L : List S84} {a : Int} (h : valid L a) : (flat L).length ≤ 4107 * L.length := by
  have hw := valid_wf h
  clear h
  induction L with
  | nil => simp [flat]
  | cons f l ih =>
    have h1 := ih (fun g hg => hw g (by simp [hg]))
    have h2 := fldB_len f (hw f (by simp)).2
    rw [flat_cons, List.length_append, List.length_cons]
    have h3 : (fldU f).length = (fldB f).length := u8_len _
    omega
/-! What is found -/
theorem none_of {L : List S84} {t k : Int} (h : ∀ f ∈ L, f.f0 ≠ t) : L.filter (isOf t k) = [] := by
  rw [List.filter_eq_nil_iff]
  intro f hf
  have := h f hf
  simp [isOf, this]
theorem getN_skip {A B : List S84} {t : Int} (h : ∀ f ∈ A, f.f0 ≠ t) : getN (A ++ B) t = getN B t := by
  unfold getN
  rw [List.filter_append, none_of h, List.nil_append]
theorem getT_skip {A B : List S84} {t : Int} (h : ∀ f ∈ A, f.f0 ≠ t) : getT (A ++ B) t = getT B t := by
  unfold getT textsOf
  rw [List.filter_append, none_of h, List.nil_append]
theorem getN_lay {B : List S84} {t n : Int} (h : ∀ f ∈ B, f.f0 ≠ t) : getN (layN t [n] ++ B) t = n := by
  unfold getN
  rw [List.filter_append, none_of h, List.append_nil]
  by_cases h0 : n = 0
  · subst h0; rfl
  · have e : (layN t [n]).filter (isOf t 0) = [fldN t n] := by simp [layN, h0, isOf, fldN]
    rw [e]
    rfl
theorem getT_lay {B : List S84} {t : Int} {s : ByteArray} (h : ∀ f ∈ B, f.f0 ≠ t) : getT (layT t [s] ++ B) t = s := by
  unfold getT textsOf
  rw [List.filter_append, none_of h, List.append_nil]
  by_cases h0 : s.toList = []
  · have e : (layT t [s]).filter (isOf t 1) = [] := by simp [layT, h0]
    rw [e]
    refine tl_inj ?_
    rw [h0]
    show (⟨#[]⟩ : ByteArray).toList = []
    decide +kernel
  · have e : (layT t [s]).filter (isOf t 1) = [fldT t s] := by simp [layT, h0, isOf, fldT]
    rw [e]
    rfl
theorem tags_ne {lo hi t : Int} {L : List S84} (h : tagsIn lo hi L) (ht : t < lo ∨ hi ≤ t) : ∀ f ∈ L, f.f0 ≠ t := fun f hf => by
  have := h f hf
  omega
theorem layN1_tags (t n : Int) : tagsIn t (t + 1) (layN t [n]) := layN_tags [n] t
theorem layT1_tags (t : Int) (s : ByteArray) : tagsIn t (t + 1) (layT t [s]) := layT_tags [s] t
theorem reqL_valid (r : S23) (h : reqOk r = true) : VB (reqL r) 0 ∧ (flat (reqL r)).length ≤ 65536 := by
  have hv : VB (reqL r) 0 := by
    unfold reqOk at h
    simp only [Bool.and_eq_true, Bool.not_eq_true'] at h
    obtain ⟨⟨⟨⟨⟨⟨⟨⟨h0, h8⟩, h1⟩, h2⟩, h3⟩, h4⟩, h5⟩, h6⟩, h7⟩ := h
    have h0 := of_decide_eq_true h0
    have h8 := of_decide_eq_true h8
    have hb0 : badN r.f0 = false := by unfold badN; rw [decide_eq_false (by omega), decide_eq_false (by omega)]; rfl
    have hA := layN_VB [r.f0, r.f1, r.f2, r.f3, r.f4, r.f5] 1 (by omega) (by simp) (by
      intro n hn
      simp only [List.mem_cons, List.not_mem_nil, or_false] at hn
      rcases hn with rfl | rfl | rfl | rfl | rfl | rfl <;> assumption)
    have hB := layT_VB [r.f6, r.f7] 7 (by omega) (by simp) (by
      intro n hn
      simp only [List.mem_cons, List.not_mem_nil, or_false] at hn
      rcases hn with rfl | rfl <;> assumption)
    have ht := layN_tags [r.f0, r.f1, r.f2, r.f3, r.f4, r.f5] 1
    refine VB_append (t' := 7) (fun b hb => hA b (by omega)) (by omega) ?_ hB
    intro f hf
    have := ht f hf
    simp only [List.length_cons, List.length_nil] at this
    omega
  refine ⟨hv, ?_⟩
  have h1 := valid_size (hv 0 (Int.le_refl _))
  have h2 := reqL_len r
  omega
theorem req_good (r : S23) (h : reqOk r = true) : reqS r = (mkS (flat (reqL r)), 0) := by
  obtain ⟨h1, h2⟩ := reqL_valid r h
  unfold reqS
  rw [if_pos h]
  exact (enc_iff _ _).2 ⟨h1 0 (Int.le_refl _), h2, rfl⟩
theorem req_no (r : S23) (h : (reqS r).2 ≠ 0) : reqS r = (⟨#[]⟩, 2) := by
  by_cases hk : reqOk r = true
  · rw [req_good r hk] at h
    exact absurd rfl h
  · unfold reqS
    rw [if_neg hk]
theorem reqOf_reqL (r : S23) : reqOf (reqL r) = r := by
  obtain ⟨a, b, c, d, e, f, s, t⟩ := r
  have hL : reqL ⟨a, b, c, d, e, f, s, t⟩ = layN 1 [a] ++ (layN 2 [b] ++ (layN 3 [c] ++ (layN 4 [d] ++ (layN 5 [e] ++ (layN 6 [f] ++ (layT 7 [s] ++ (layT 8 [t] ++ []))))))) := by
    simp only [reqL, layN, layT, List.append_nil, List.append_assoc]
    rfl
  have t1 := layN1_tags 1 a
  have t2 := layN1_tags 2 b
  have t3 := layN1_tags 3 c
  have t4 := layN1_tags 4 d
  have t5 := layN1_tags 5 e
  have t6 := layN1_tags 6 f
  have t7 := layT1_tags 7 s
  have t8 := layT1_tags 8 t
  have B8 : tagsIn 9 64 ([] : List S84) := tagsIn_nil _ _
  have B7 : tagsIn 8 64 (layT 8 [t] ++ []) := tagsIn_append (tagsIn_mono t8 (by omega) (by omega)) (tagsIn_mono B8 (by omega) (by omega))
  have B6 := tagsIn_append (lo := 7) (hi := 64) (tagsIn_mono t7 (by omega) (by omega)) (tagsIn_mono B7 (by omega) (by omega))
  have B5 := tagsIn_append (lo := 6) (hi := 64) (tagsIn_mono t6 (by omega) (by omega)) (tagsIn_mono B6 (by omega) (by omega))
  have B4 := tagsIn_append (lo := 5) (hi := 64) (tagsIn_mono t5 (by omega) (by omega)) (tagsIn_mono B5 (by omega) (by omega))
  have B3 := tagsIn_append (lo := 4) (hi := 64) (tagsIn_mono t4 (by omega) (by omega)) (tagsIn_mono B4 (by omega) (by omega))
  have B2 := tagsIn_append (lo := 3) (hi := 64) (tagsIn_mono t3 (by omega) (by omega)) (tagsIn_mono B3 (by omega) (by omega))
  have B1 := tagsIn_append (lo := 2) (hi := 64) (tagsIn_mono t2 (by omega) (by omega)) (tagsIn_mono B2 (by omega) (by omega))
  rw [hL]
  unfold reqOf
  rw [getN_lay (tags_ne B1 (by omega)),
    getN_skip (tags_ne t1 (by omega)), getN_lay (tags_ne B2 (by omega)),
    getN_skip (tags_ne t1 (by omega)), getN_skip (tags_ne t2 (by omega)), getN_lay (tags_ne B3 (by omega)),
    getN_skip (tags_ne t1 (by omega)), getN_skip (tags_ne t2 (by omega)), getN_skip (tags_ne t3 (by omega)), getN_lay (tags_ne B4 (by omega)),
    getN_skip (tags_ne t1 (by omega)), getN_skip (tags_ne t2 (by omega)), getN_skip (tags_ne t3 (by omega)), getN_skip (tags_ne t4 (by omega)), getN_lay (tags_ne B5 (by omega)),
    getN_skip (tags_ne t1 (by omega)), getN_skip (tags_ne t2 (by omega)), getN_skip (tags_ne t3 (by omega)), getN_skip (tags_ne t4 (by omega)), getN_skip (tags_ne t5 (by omega)), getN_lay (tags_ne B6 (by omega)),
    getT_skip (tags_ne t1 (by omega)), getT_skip (tags_ne t2 (by omega)), getT_skip (tags_ne t3 (by omega)), getT_skip (tags_ne t4 (by omega)), getT_skip (tags_ne t5 (by omega)), getT_skip (tags_ne t6 (by omega)), getT_lay (tags_ne B7 (by omega)),
    getT_skip (tags_ne t1 (by omega)), getT_skip (tags_ne t2 (by omega)), getT_skip (tags_ne t3 (by omega)), getT_skip (tags_ne t4 (by omega)), getT_skip (tags_ne t5 (by omega)), getT_skip (tags_ne t6 (by omega)), getT_skip (tags_ne t7 (by omega)), getT_lay (tags_ne B8 (by omega))]
/-- What is written is read as it was. -/
theorem rr_back (r : S23) (h : (reqS r).2 = 0) : rrS (reqS r).1 = (r, 0) := by
  have hd : decS (reqS r).1 = (reqL r, 0) := (dec_enc _ _).2 (req_enc r h)
  unfold rrS
  rw [hd]
  simp only
  rw [if_pos trivial, reqOf_reqL, if_pos ⟨h, rfl⟩]
end Go.Proofs.Ytjaneipklpgnlaa.Q

namespace Go.Proofs.YtjaneipklpgnlaaK
open Go Go.RowKit Go.Proofs.YtjaneipklpgnlaaW.PrintWords
/-! What a walk keeps, by classes: each world tells the one it came of; what was known of a block, or of a row, is known at every later world without a word. -/
/-- Which of the elder blocks may have been written: none, one, or all from b on. -/
inductive Touch where
  | none
  | row (g : Nat)
  | above (b : Nat)
/-- Block k was not. -/
def Touch.Ok : Touch → Nat → Prop
  | .none, _ => True
  | .row g, k => k ≠ g
  | .above b, k => k < b
structure Kept0 (W W' : World) (T : Touch) : Prop where
  os : W'.os = W.os
  tape : W'.tape = W.tape
  output : W'.output = W.output
  size : W.heap.size ≤ W'.heap.size
  block : ∀ k, k < W.heap.size → T.Ok k → W'.heap[k]? = W.heap[k]?
/-- W' came of W. -/
class Prev (W' : World) (W : outParam World) (T : outParam Touch) : Prop where
  out : Kept0 W W' T
theorem kept_below {W W' : World} (h : Below W.heap.size W W') : Kept0 W W' .none := ⟨h.os, h.tape, h.output, h.size, fun k hk _ => h.block k hk⟩
theorem kept_above {W W' : World} {b : Nat} (h : Below b W W') : Kept0 W W' (.above b) := ⟨h.os, h.tape, h.output, h.size, fun k _ hk => h.block k hk⟩
theorem kept_row {W W' : World} {g : Nat} (h : W.grownBy W' (some g)) : Kept0 W W' (.row g) := ⟨h.os, h.tape, h.output, h.size, fun k hk hne => h.block k hk (fun e => hne (Option.some.inj e))⟩
theorem kept_grown {W W' : World} (h : W.grownBy W' Option.none) : Kept0 W W' .none := ⟨h.os, h.tape, h.output, h.size, fun k hk _ => h.block k hk (by simp)⟩
instance (W : World) (o : Obj) : Prev (W.alloc o) W .none := ⟨kept_grown (World.grownBy_alloc W o Option.none)⟩
instance (W : World) : Prev W.drew W .none := ⟨⟨rfl, rfl, rfl, Nat.le_refl _, fun _ _ _ => rfl⟩⟩
instance (W : World) (n : Nat) : Prev (W.drewN n) W .none := ⟨kept_below (pw_below_drewN (Below.refl W.heap.size W) n)⟩
instance (W : World) (g j : Nat) (v : Value) : Prev (W.setCell ⟨g, j, Option.none⟩ v) W (.row g) := by
  have h := (Below.refl g W).setCell (p := ⟨g, j, Option.none⟩) (Nat.le_refl _) v
  exact ⟨⟨h.os, h.tape, h.output, by simp [World.setCell], fun k _ hne => Below.heap_setCell W ⟨g, j, Option.none⟩ v k hne⟩⟩
theorem prev_call {W W1 : World} (h : Below W.heap.size W W1) : Prev W1 W .none := ⟨kept_below h⟩
theorem prev_above {W W1 : World} {b : Nat} (h : Below b W W1) : Prev W1 W (.above b) := ⟨kept_above h⟩
theorem prev_row {W W1 : World} {g : Nat} (h : W.grownBy W1 (some g)) : Prev W1 W (.row g) := ⟨kept_row h⟩
/-- The row that an append may have written. -/
def touchOf : Option Nat → Touch
  | Option.none => .none
  | some g => .row g
theorem prev_grown {W W1 : World} {row : Option Nat} (h : W.grownBy W1 row) : Prev W1 W (touchOf row) := by
  cases row with
  | none => exact ⟨kept_grown h⟩
  | some g => exact prev_row h
/-- Block g is not what was written. -/
class Apart (g : Nat) (T : Touch) : Prop where
  out : T.Ok g
instance (g : Nat) : Apart g .none := ⟨trivial⟩
theorem apart_ne {g g' : Nat} (h : g ≠ g') : Apart g (.row g') := ⟨h⟩
theorem apart_lt {g b : Nat} (h : g < b) : Apart g (.above b) := ⟨h⟩
instance (n : Nat) : Apart n (.above (n + 1)) := ⟨Nat.lt_succ_self n⟩
instance (n : Nat) : Apart n (.above (n + 2)) := ⟨by show n < n + 2; omega⟩
instance (n : Nat) : Apart n (.row (n + 1)) := ⟨Nat.ne_of_lt (Nat.lt_succ_self n)⟩
/-- What was written is b's own: block b or a later one. -/
class OwnB (b : Nat) (T : Touch) : Prop where
  out : ∀ k, k < b → T.Ok k
instance (b : Nat) : OwnB b .none := ⟨fun _ _ => trivial⟩
theorem own_row {b g : Nat} (h : b ≤ g) : OwnB b (.row g) := ⟨fun k hk e => by subst e; omega⟩
theorem own_above {b g : Nat} (h : b ≤ g) : OwnB b (.above g) := ⟨fun k hk => Nat.lt_of_lt_of_le hk h⟩
instance (b : Nat) : OwnB b (.row b) := own_row (Nat.le_refl b)
instance (b n : Nat) : OwnB b (.row (b + n)) := own_row (Nat.le_add_right b n)
instance (b : Nat) : OwnB b (.above b) := own_above (Nat.le_refl b)
instance (b n : Nat) : OwnB b (.above (b + n)) := own_above (Nat.le_add_right b n)
/-- Below b nothing is turned. -/
class Bel (b : Nat) (W W' : World) : Prop where
  out : b ≤ W.heap.size → Below b W W'
instance (b : Nat) (W : World) : Bel b W W := ⟨fun _ => Below.refl _ _⟩
instance (b : Nat) (W W1 W' : World) (T : Touch) [p : Prev W' W1 T] [h : Bel b W W1] [o : OwnB b T] : Bel b W W' :=
  ⟨fun hb => by
    have h1 := h.out hb
    have h2 := p.out
    refine h1.trans ⟨h2.os, h2.tape, h2.output, h2.size, fun k hk => h2.block k (by have := h1.size; omega) (o.out k hk)⟩⟩
theorem bel (w W : World) [h : Bel w.heap.size w W] : Below w.heap.size w W := h.out (Nat.le_refl _)
theorem siz (w W : World) [h : Bel w.heap.size w W] : w.heap.size ≤ W.heap.size := (bel w W).size
/-- How large the heap is at least. -/
class Size (n : Nat) (W : World) : Prop where
  out : n ≤ W.heap.size
instance (W : World) : Size W.heap.size W := ⟨Nat.le_refl _⟩
instance (priority := low) (n : Nat) (W W' : World) (T : Touch) [p : Prev W' W T] [h : Size n W] : Size n W' := ⟨Nat.le_trans h.out p.out.size⟩
instance (W : World) (o : Obj) : Size (W.heap.size + 1) (W.alloc o) := ⟨by rw [World.size_alloc]; exact Nat.le_refl _⟩
/-- Block g of world W is o. -/
class Holds (W : World) (g : Nat) (o : outParam Obj) : Prop where
  out : W.heap[g]? = some o
instance holds_new (W : World) (o : Obj) : Holds (W.alloc o) W.heap.size o := ⟨blk_new W o⟩
instance (W : World) (o1 o : Obj) : Holds ((W.alloc o1).alloc o) (W.heap.size + 1) o := ⟨by have := blk_new (W.alloc o1) o; rwa [World.size_alloc] at this⟩
instance (W : World) (o1 o2 o : Obj) : Holds (((W.alloc o1).alloc o2).alloc o) (W.heap.size + 2) o := ⟨by have := blk_new ((W.alloc o1).alloc o2) o; rwa [World.size_alloc, World.size_alloc] at this⟩
instance (priority := low) holds_step (W' W : World) (T : Touch) (g : Nat) (o : Obj) [p : Prev W' W T] [a : Apart g T] [h : Holds W g o] : Holds W' g o := ⟨(p.out.block g (blk_lt h.out) a.out).trans h.out⟩
instance (W : World) (g j : Nat) (v : Value) (cs : Array Value) (t : TypeId) [h : Holds W g (.cells cs t (0, 0))] : Holds (W.setCell ⟨g, j, Option.none⟩ v) g (.cells (cs.setIfInBounds j v) t (0, 0)) := ⟨blk_set h.out j v⟩
theorem held {W : World} {g : Nat} {o : Obj} [h : Holds W g o] : W.heap[g]? = some o := h.out
theorem cell_held {W : World} {g j : Nat} {cs : Array Value} {t : TypeId} [h : Holds W g (.cells cs t (0, 0))] : W.cell? ⟨g, j, Option.none⟩ = cs[j]? := blk_cell h.out j
theorem frozen_held {W : World} {g j : Nat} {cs : Array Value} {t : TypeId} [h : Holds W g (.cells cs t (0, 0))] : W.frozen? ⟨g, j, Option.none⟩ = false := blk_frozen h.out j
theorem held_lt {W : World} {g : Nat} {o : Obj} [h : Holds W g o] : g < W.heap.size := blk_lt h.out
/-- No block of the types L was written. -/
class NoRow (L : List Nat) (W : World) (T : Touch) : Prop where
  out : ∀ k t cells, W.heap[k]? = some (.cells cells t (0, 0)) → t ∈ L → T.Ok k
instance (L : List Nat) (W : World) : NoRow L W .none := ⟨fun _ _ _ _ _ => trivial⟩
theorem noRow_row {L : List Nat} {W : World} {g t : Nat} {cs : Array Value} (h : W.heap[g]? = some (.cells cs t (0, 0))) (hL : ∀ q, q ∈ L → q ≠ t) : NoRow L W (.row g) :=
  ⟨fun k t' cells hc ht e => by
    subst e
    rw [hc] at h
    injection h with h
    injection h with _ h
    exact hL t' ht h⟩
/-- Rows of the types L are kept. -/
class Rows0 (L : List Nat) (W W' : World) : Prop where
  out : ∀ {α : Type} (d : Kd α) (e base : Nat) (v : Value) (xs : List α), e :: d.E = L → d.R e W base (fun _ => True) v xs → d.R e W' base (fun _ => True) v xs
instance (L : List Nat) (W : World) : Rows0 L W W := ⟨fun _ _ _ _ _ _ h => h⟩
instance (L : List Nat) (W W1 W' : World) (T : Touch) [p : Prev W' W1 T] [h : Rows0 L W W1] [o : NoRow L W1 T] : Rows0 L W W' :=
  ⟨fun d e base v xs hL hr => by
    have h1 := h.out d e base v xs hL hr
    refine Kd.R_mono (Kd.R_step (Kd.R_bound h1) (fun k hk hlt => ?_)) (fun _ hk => hk.1)
    obtain ⟨_, _, _, q, hq, cells, hc⟩ := hk
    exact p.out.block k hlt (o.out k q cells hc (by rw [← hL]; exact hq))⟩
theorem apart_R {α : Type} {d : Kd α} {e base : Nat} {W : World} {v : Value} {xs : List α} {ok : Nat → Prop} (h : d.R e W base ok v xs) {g t : Nat} {cs : Array Value} (hg : W.heap[g]? = some (.cells cs t (0, 0))) (ht : e ≠ t) : Apart g (touchOf v.ownBlock) := by
  have h1 := Kd.R_ne h hg ht
  constructor
  cases hv : v.ownBlock with
  | none => trivial
  | some k => exact fun he => h1 (by rw [hv, he])
theorem ownB_R {α : Type} {d : Kd α} {e base b : Nat} {W : World} {v : Value} {xs : List α} {ok : Nat → Prop} (h : d.R e W base ok v xs) (hb : b ≤ base) : OwnB b (touchOf v.ownBlock) := by
  have h1 := Kd.R_base h
  cases hv : v.ownBlock with
  | none => exact ⟨fun _ _ => trivial⟩
  | some k => exact own_row (Nat.le_trans hb (h1 k hv))
theorem noRow_R {α : Type} {d : Kd α} {e base : Nat} {W : World} {v : Value} {xs : List α} {ok : Nat → Prop} {L : List Nat} (h : d.R e W base ok v xs) (hL : ∀ q, q ∈ L → q ≠ e) : NoRow L W (touchOf v.ownBlock) := by
  have h1 := Kd.R_typed h
  cases hv : v.ownBlock with
  | none => exact ⟨fun _ _ _ _ _ => trivial⟩
  | some k =>
    obtain ⟨cells, hc⟩ := h1 k hv
    exact noRow_row hc hL
theorem rowK {α : Type} {d : Kd α} {e base : Nat} {W W' : World} {v : Value} {xs : List α} (h : d.R e W base (fun _ => True) v xs) [r : Rows0 (e :: d.E) W W'] : d.R e W' base (fun _ => True) v xs := r.out d e base v xs rfl h
end Go.Proofs.YtjaneipklpgnlaaK

namespace Go.Proofs.YtjaneipklpgnlaaK
open Go Go.RowKit Go.ChangeShapes Go.WideShapes Go.Deep Go.Proofs.YtjaneipklpgnlaaW.PrintWords
/-! Arrays of 32 bytes, whole. -/
structure Sum where
  l : List UInt8
  h : l.length = 32
theorem Sum.eq {a b : Sum} (h : a.l = b.l) : a = b := by cases a; cases b; simp only at h; subst h; rfl
def sumL (s : Sum) : List Value := s.l.map fun b => .int .u8 (b.toNat : Int)
theorem sumL_len (s : Sum) : (sumL s).length = 32 := by unfold sumL; rw [List.length_map, s.h]
def sum0 : Sum := ⟨List.replicate 32 0, by decide⟩
def kSum : Kd Sum where
  sz := 32
  E := []
  K := fun _ x cs => cs = sumL x
  M := fun _ _ _ x cs => cs = sumL x
  K_len := fun h => by rw [h, sumL_len]
  K_one := fun h u hu => by
    rw [h] at hu
    obtain ⟨b, _, rfl⟩ := List.mem_map.1 hu
    rfl
  K_below := fun _ h => h
  K_of_M := fun h => h
  M_mono := fun _ h => h
  M_bound := fun h => h
  M_move := fun _ h => h
  M_lower := fun _ h => h
section
variable {P : Program} {t e : TypeId}
theorem u8_back {n : Int} (h : (Lit.int .u8 n).wf = true) : ((UInt8.ofNat n.toNat).toNat : Int) = n := by
  simp [Lit.wf, IntKind.min, IntKind.max, IntKind.signed, IntKind.bits] at h
  simp [UInt8.toNat_ofNat']
  omega
theorem opens_sum (ht : P.underlying t = some (.array 32 e)) (he : P.underlying e = some (.int .u8)) (hc : P.cellsOf e = 1) (hs : P.cellsOf t = 32) : Opens P t kSum (fun _ => True) := by
  intro H enc w base spare held fuel cs x h
  obtain ⟨xs, m, _, _, hl, hxl, hx⟩ := DataW.trod_array ht h
  rw [hs] at hl
  rw [hc] at hx
  have key : ∀ i, i < 32 → ∃ b : UInt8, cs[i]? = some (.int .u8 (b.toNat : Int)) := by
    intro i hi
    have h1 := hx i hi
    rw [Nat.mul_one, List.getElem?_eq_getElem (by omega)] at h1
    obtain ⟨n, hn, _, hw⟩ := DataW.trod_int he h1
    have hlt : i < cs.length := by omega
    have h2 : (cs.drop i).take 1 = [cs[i]] := by rw [List.drop_eq_getElem_cons hlt]; rfl
    rw [h2] at hn
    injection hn with hn _
    refine ⟨UInt8.ofNat n.toNat, ?_⟩
    rw [List.getElem?_eq_getElem hlt, hn, u8_back hw]
  obtain ⟨l, hll, hlp⟩ := pick_list 32 key
  refine ⟨⟨l, hll⟩, ?_, trivial⟩
  show cs = sumL ⟨l, hll⟩
  apply List.ext_getElem?
  intro i
  show cs[i]? = (l.map fun b => Value.int .u8 (b.toNat : Int))[i]?
  rw [List.getElem?_map]
  rcases Nat.lt_or_ge i 32 with hi | hi
  · have h3 := hlp i l[i] (List.getElem?_eq_getElem (by omega))
    rw [h3, List.getElem?_eq_getElem (by omega)]
    rfl
  · rw [List.getElem?_eq_none (by omega), List.getElem?_eq_none (by omega)]
    rfl
theorem run_part_one {w : World} (he : P.underlying e = some (.int .u8)) (xs : Array Value) (j : Nat) (v : Value) (h : xs[j]? = some v) : (part e xs j).run P w = .ok v w := by
  unfold part isAgg
  simp [Sem.run_bind, run_underlying he, h]
theorem eqItems_bytes {w : World} (d : Nat) (he : P.underlying e = some (.int .u8)) (xs ys : Array Value) (l m : List UInt8) (hx : ∀ (j : Nat) b, l[j]? = some b → xs[j]? = some (.int .u8 (b.toNat : Int))) (hy : ∀ (j : Nat) b, m[j]? = some b → ys[j]? = some (.int .u8 (b.toNat : Int))) :
    ∀ is : List Nat, (∀ j ∈ is, j < l.length ∧ j < m.length) → (Op.eqItems (d + 1) e 1 xs ys is).run P w = .ok (is.all fun j => l[j]? == m[j]?) w := by
  intro is
  induction is with
  | nil => intro _; simp [Op.eqItems]
  | cons j is ih =>
    intro hj
    obtain ⟨h1, h2⟩ := hj j (by simp)
    have a := run_part_one (P := P) (w := w) he xs (j * 1) _ (by rw [Nat.mul_one]; exact hx j l[j] (List.getElem?_eq_getElem h1))
    have b := run_part_one (P := P) (w := w) he ys (j * 1) _ (by rw [Nat.mul_one]; exact hy j m[j] (List.getElem?_eq_getElem h2))
    have c : (Op.equalIn (d + 1) e (.int .u8 (l[j].toNat : Int)) (.int .u8 (m[j].toNat : Int))).run P w = .ok (l[j] == m[j]) w := by
      have e1 : (((l[j].toNat : Nat) : Int) == ((m[j].toNat : Nat) : Int)) = (l[j] == m[j]) := by
        rw [Bool.eq_iff_iff]
        simp only [beq_iff_eq]
        constructor
        · intro h; exact UInt8.toNat.inj (by omega)
        · intro h; rw [h]
      simp [Op.equalIn, Sem.run_bind, run_underlying he, e1]
    simp only [Op.eqItems, Sem.run_bind, a, b, c, Result.andThen_ok]
    rw [List.all_cons, List.getElem?_eq_getElem h1, List.getElem?_eq_getElem h2]
    by_cases hq : l[j] = m[j]
    · have q1 : (l[j] == m[j]) = true := beq_iff_eq.2 hq
      have q2 : (some l[j] == some m[j]) = true := by simp [hq]
      rw [q1, q2]
      simpa using ih (fun k hk => hj k (by simp [hk]))
    · have q1 : (l[j] == m[j]) = false := beq_eq_false_iff_ne.2 hq
      have q2 : (some l[j] == some m[j]) = false := by simp [hq]
      rw [q1, q2]
      simp
theorem eq_sum {w : World} {i : TypeInfo} (d : Nat) (ht : P.underlying t = some (.array 32 e)) (he : P.underlying e = some (.int .u8)) (hc : P.cellsOf e = 1) (hi : P.info? e = some i) (xs ys : Array Value) (s r : Sum) (hx : xs.toList = sumL s) (hy : ys.toList = sumL r) :
    (Op.equalIn (d + 2) t (.agg xs) (.agg ys)).run P w = .ok (s.l == r.l) w := by
  have g : ∀ (zs : Array Value) (q : Sum), zs.toList = sumL q → ∀ (j : Nat) b, q.l[j]? = some b → zs[j]? = some (.int .u8 (b.toNat : Int)) := by
    intro zs q hz j b hb
    rw [← Array.getElem?_toList, hz]
    unfold sumL
    rw [List.getElem?_map, hb]
    rfl
  rw [run_equalIn_array (P := P) (w := w) (d + 1) xs ys ht hi, hc, eqItems_bytes d he xs ys s.l r.l (g xs s hx) (g ys r hy) _ (fun j hj => by rw [List.mem_range] at hj; rw [s.h, r.h]; exact ⟨hj, hj⟩)]
  congr 1
  rw [Bool.eq_iff_iff, List.all_eq_true, beq_iff_eq]
  constructor
  · intro h
    apply List.ext_getElem?
    intro j
    rcases Nat.lt_or_ge j 32 with hj | hj
    · simpa using h j (List.mem_range.2 hj)
    · rw [List.getElem?_eq_none (by rw [s.h]; exact hj), List.getElem?_eq_none (by rw [r.h]; exact hj)]
  · intro h j _
    rw [h]
    simp
end
end Go.Proofs.YtjaneipklpgnlaaK

namespace Go.Proofs.YtjaneipklpgnlaaK
open Go Go.RowKit Go.Proofs.YtjaneipklpgnlaaW.PrintWords
/-! Whole structs and arrays out of memory, wherever they lie. -/
section
variable {P : Program} {ops : Array Oper} {rest : List Oper} {o : Oper} {a : Act} {W : World} {Q : Exit → Act → World → Prop}
/-- The cells cs lie at ad. -/
def At (W : World) (ad : Addr) (cs : List Value) : Prop := ∀ (j : Nat) (u : Value), cs[j]? = some u → W.cell? (ad.add j) = some u
theorem add_zero_ (ad : Addr) : ad.add 0 = ad := by unfold Addr.add; split <;> simp_all
theorem add_at (g i j : Nat) : (⟨g, i, none⟩ : Addr).add j = ⟨g, i + j, none⟩ := by unfold Addr.add; split <;> simp_all
theorem At_box {g : Nat} {cs : Array Value} {t : TypeId} (h : W.heap[g]? = some (.cells cs t (0, 0))) : At W ⟨g, 0, none⟩ cs.toList := fun j u hj => by
  rw [add_at, Nat.zero_add, blk_cell h]
  simpa using hj
theorem At_seg {g i : Nat} {cs : Array Value} {t : TypeId} {l : List Value} (h : W.heap[g]? = some (.cells cs t (0, 0))) (hl : ∀ (j : Nat) (u : Value), l[j]? = some u → cs[i + j]? = some u) : At W ⟨g, i, none⟩ l := fun j u hj => by
  rw [add_at, blk_cell h]
  exact hl j u hj
theorem run_loadVar_at {ty : TypeId} {ad : Addr} {cs : List Value} {d : TypeDesc} (hc : At W ad cs) (hu : P.underlying ty = some d) (hd : (match d with | .struct _ | .array _ _ => true | _ => false) = true) (hi : (P.info? ty).map (·.size) = some cs.length) :
    (loadVar ty ad).run P W = .ok (.agg cs.toArray) W := by
  have hl : (loadCells ad cs.length).run P W = .ok cs.toArray W := run_loadCells_list (P := P) W ad cs hc
  cases hq : P.info? ty with
  | none => simp [hq] at hi
  | some i =>
    have hs : i.size = cs.length := by simpa [hq] using hi
    have hagg : (isAgg ty).run P W = .ok true W := by
      unfold isAgg
      rw [Sem.run_bind, run_underlying hu W]
      cases d <;> simp_all
    simp [loadVar, Sem.run_bind, hagg, sizeOf, typeInfo, hq, hs, hl]
/-- A struct, or an array, is read whole. -/
theorem seg_load (hgd : o.guard = none) (ty : TypeId) (x : Operand) (ho : o.op = .load ty x) {ad : Addr} {cs : List Value} (hc : At W ad cs) (arr : Array Value) (harr : arr = cs.toArray)
    (hx : a.eval x = .pointer (some ad)) {d : TypeDesc} (hu : P.underlying ty = some d) (hd : (match d with | .struct _ | .array _ _ => true | _ => false) = true)
    (hi : (P.info? ty).map (·.size) = some cs.length) (h : wpList P ops Q rest (a.put o.dst (.agg arr)) W) : wpList P ops Q (o :: rest) a W := by
  subst harr
  refine wpList_plain hgd fun K hK => ?_
  unfold Oper.wp execOp
  simp only [ho, hx, Instr.loadAt, Instr.sureAddr, Sem.run_bind, Sem.run_pure, Result.andThen_ok, run_loadVar_at hc hu hd hi]
  exact hK _ _ h
/-- The same in a region that draws its order and only reads. -/
theorem quiet_load {C : World → Prop} {K : Act → Prop} (hw : Region.wanted o (yielded ops a.tmps) = true) (ty : TypeId) (x : Operand) (ho : o.op = .load ty x) {ad : Addr} {cs : List Value} (arr : Array Value) (harr : arr = cs.toArray) (hc : ∀ w, C w → At w ad cs)
    (hx : a.eval x = .pointer (some ad)) {d : TypeDesc} (hu : P.underlying ty = some d) (hd : (match d with | .struct _ | .array _ _ => true | _ => false) = true)
    (hi : (P.info? ty).map (·.size) = some cs.length) (h : K (a.put o.dst (.agg arr))) : if Region.wanted o (yielded ops a.tmps) = true then o.quiet P a C K else K (a.put o.dst undef) := by
  subst harr
  rw [if_pos hw]
  refine ⟨_, fun w hC => ?_, h⟩
  unfold Oper.quietAt execOp
  simp only [ho, hx, Instr.loadAt, Instr.sureAddr, Sem.run_bind, Sem.run_pure, Result.andThen_ok, run_loadVar_at (hc w hC) hu hd hi]
  exact ⟨rfl, rfl⟩
/-- An operation that tells a value and turns nothing. -/
theorem val_event (hgd : o.guard = none) {N : Tmp} (_hd : o.dst = some N) {v : Value} (hrun : (execOp a.eval o).run P W = .ok (.value v) W) (h : wpList P ops Q rest (a.put o.dst v) W) : wpList P ops Q (o :: rest) a W :=
  Kd.event_run hgd hrun h
/-- 'string(x[:])' of an array of 32 bytes. -/
theorem sumstr_event (hgd : o.guard = none) {src dst e : TypeId} {x : Operand} (ho : o.op = .convert src dst x) {ad : Addr} {cap : Nat} {s : Sum} (hc : At W ad (sumL s)) (hx : a.eval x = .slice (some ad) 32 cap)
    (hs : P.underlying src = some (.slice e)) (he : P.underlying e = some (.int .u8)) (hd : P.underlying dst = some .string)
    (h : wpList P ops Q rest (a.put o.dst (.string ⟨s.l.toArray⟩)) W) : wpList P ops Q (o :: rest) a W := by
  have hr := run_convert_bytes_back (P := P) W src dst e ad cap s.l hs he hd (fun j hj => hc j _ (by unfold sumL; rw [List.getElem?_map, List.getElem?_eq_getElem hj]; rfl))
  rw [s.h] at hr
  exact Kd.event_run hgd (by unfold execOp; simp only [ho, hx, Sem.run_bind, hr, Result.andThen_ok, Sem.run_pure]) h
/-- A new block, by whatever operation: its world under a name. -/
theorem new_event (hgd : o.guard = none) {N : Tmp} (_hd : o.dst = some N) {v : Value} {ob : Obj} (hrun : (execOp a.eval o).run P W = .ok (.value v) (W.alloc ob))
    (h : ∀ w1, Prev w1 W .none → Holds w1 W.heap.size ob → wpList P ops Q rest (a.put o.dst v) w1) : wpList P ops Q (o :: rest) a W :=
  Kd.event_run hgd hrun (h _ inferInstance inferInstance)
end
end Go.Proofs.YtjaneipklpgnlaaK

namespace Go.Proofs.Ytjaneipklpgnlaa.Q
open Go Go.RowKit Go.Proofs.YtjaneipklpgnlaaK Go.Proofs.YtjaneipklpgnlaaW.PrintWords Go.Proofs.YtjaneipklpgnlaaW.PrintLast Go.Proofs.YtjaneipklpgnlaaW.PrintMore
set_option linter.unusedSimpArgs false
set_option linter.unusedVariables false
/-! ### A change -/
structure S81 where
  f0 : Int
  f1 : ByteArray
  f2 : Bool
  f3 : Int
  f4 : Sum
def z81 : S81 := ⟨0, ⟨#[]⟩, false, 0, sum0⟩
def k81 : Kd S81 := Kd.iso (Kd.pair (Kd.int .i64) (Kd.pair Kd.string (Kd.pair Kd.bool (Kd.pair (Kd.int .i64) kSum)))) (fun x : S81 => (x.f0, x.f1, x.f2, x.f3, x.f4))
def L81 (x : S81) : List Value := .int .i64 x.f0 :: .string x.f1 :: .bool x.f2 :: .int .i64 x.f3 :: sumL x.f4
def A81 (x : S81) : Array Value := (L81 x).toArray
theorem L81_len (x : S81) : (L81 x).length = 36 := by simp [L81, sumL_len]
theorem A81_size (x : S81) : (A81 x).size = 36 := by simp [A81, L81_len]
theorem A81_0 (x : S81) : (A81 x)[0]? = some (.int .i64 x.f0) := by simp [A81, L81]
theorem A81_1 (x : S81) : (A81 x)[1]? = some (.string x.f1) := by simp [A81, L81]
theorem A81_2 (x : S81) : (A81 x)[2]? = some (.bool x.f2) := by simp [A81, L81]
theorem A81_3 (x : S81) : (A81 x)[3]? = some (.int .i64 x.f3) := by simp [A81, L81]
theorem A81_g0 (x : S81) (h : 0 < (A81 x).size) : (A81 x)[0] = .int .i64 x.f0 := by have := A81_0 x; rw [Array.getElem?_eq_getElem h] at this; exact Option.some.inj this
theorem A81_g1 (x : S81) (h : 1 < (A81 x).size) : (A81 x)[1] = .string x.f1 := by have := A81_1 x; rw [Array.getElem?_eq_getElem h] at this; exact Option.some.inj this
theorem A81_g2 (x : S81) (h : 2 < (A81 x).size) : (A81 x)[2] = .bool x.f2 := by have := A81_2 x; rw [Array.getElem?_eq_getElem h] at this; exact Option.some.inj this
theorem A81_g3 (x : S81) (h : 3 < (A81 x).size) : (A81 x)[3] = .int .i64 x.f3 := by have := A81_3 x; rw [Array.getElem?_eq_getElem h] at this; exact Option.some.inj this
theorem A81_sum (x : S81) (j : Nat) (u : Value) (h : (sumL x.f4)[j]? = some u) : (A81 x)[4 + j]? = some u := by
  simp only [A81, L81, List.getElem?_toArray]
  rw [Nat.add_comm]
  exact h
theorem k81_open {w : World} {x : S81} {cs : List Value} (h : k81.K w x cs) : cs = L81 x := by
  obtain ⟨_, _, rfl, rfl, ⟨_, _, rfl, rfl, ⟨_, _, rfl, rfl, ⟨_, _, rfl, rfl, rfl⟩⟩⟩⟩ := h
  exact rfl
theorem k81_mkM (w : World) (base : Nat) (ok : Nat → Prop) (x : S81) : k81.M w base ok x (L81 x) :=
  ⟨[.int .i64 x.f0], _, rfl, rfl, ⟨[.string x.f1], _, rfl, rfl, ⟨[.bool x.f2], _, rfl, rfl, ⟨[.int .i64 x.f3], _, rfl, rfl, rfl⟩⟩⟩⟩
theorem info81 : (Try.prog.info? 81).map (·.size) = some 36 := by kernel_rfl
theorem info79 : (Try.prog.info? 79).map (·.size) = some 32 := by kernel_rfl
/-- May a change be. -/
def chgOk (c : S81) : Bool := decide (1 ≤ c.f0) && !badN c.f0 && !badN c.f3 && !badT c.f1 && (!c.f2 || (c.f3 == 0 && c.f4.l == sum0.l))
/-- A new literal of numbers, of texts. -/
theorem C_lit {α : Type} (enc : α → Value) (h1 : ∀ x, (enc x).oneCell' = true) {W : World} {b : Nat} {l : List α} {t : TypeId} (h : W.heap[b]? = some (.cells (l.map enc).toArray t (0, 0))) (hl : l.length ≤ 9223372036854775807) : Kd.C (Kd.scalar enc h1) W (some ⟨b, 0, none⟩) l.length l := by
  refine ⟨rfl, hl, fun _ => ⟨⟨b, 0, none⟩, rfl, fun j p hj => ⟨[enc p], rfl, rfl, fun i u hi => ?_⟩⟩⟩
  have hi0 : i = 0 := by
    have := (List.getElem?_eq_some_iff.1 hi).1
    simp at this
    omega
  subst hi0
  simp only [List.getElem?_cons_zero, Option.some.injEq] at hi
  subst hi
  show W.cell? ((⟨b, 0, none⟩ : Addr).add (j * 1 + 0)) = some (enc p)
  rw [Go.Proofs.YtjaneipklpgnlaaK.add_at, blk_cell h]
  simp [hj]
theorem nums_new {W : World} {b : Nat} (l : List Int) (hl : l.length ≤ 1048576) {cs : Array Value} [h : Holds W b (.cells cs 3 (0, 0))] (e : cs = (l.map (Value.int .i64)).toArray) :
    Calls Try.prog 40 #[.slice (some ⟨b, 0, none⟩) l.length l.length] W fun e w' => e = .returned (.bool (!(l.any badN))) ∧ Below W.heap.size W w' :=
  talk_nums.calls _ _ l _ W (C_lit _ (fun _ => rfl) (e ▸ h.out) (by omega)) (Nat.le_refl _) (by unfold talk_nums.f; rw [if_pos hl])
theorem texts_new {W : World} {b : Nat} (l : List ByteArray) (hl : l.length ≤ 1048576) {cs : Array Value} [h : Holds W b (.cells cs 9 (0, 0))] (e : cs = (l.map Value.string).toArray) :
    Calls Try.prog 41 #[.slice (some ⟨b, 0, none⟩) l.length l.length] W fun e w' => e = .returned (.bool (!(l.any badT))) ∧ Below W.heap.size W w' :=
  talk_texts.calls _ _ l _ W (C_lit _ (fun _ => rfl) (e ▸ h.out) (by omega)) (Nat.le_refl _) (by unfold talk_texts.f; rw [if_pos hl])
theorem eqS0 (d : Nat) (w : World) (s : Sum) : (Op.equalIn (d + 2) 79 (.agg (sumL s).toArray) (.agg #[.int .u8 0, .int .u8 0, .int .u8 0, .int .u8 0, .int .u8 0, .int .u8 0, .int .u8 0, .int .u8 0, .int .u8 0, .int .u8 0, .int .u8 0, .int .u8 0, .int .u8 0, .int .u8 0, .int .u8 0, .int .u8 0, .int .u8 0, .int .u8 0, .int .u8 0, .int .u8 0, .int .u8 0, .int .u8 0, .int .u8 0, .int .u8 0, .int .u8 0, .int .u8 0, .int .u8 0, .int .u8 0, .int .u8 0, .int .u8 0, .int .u8 0, .int .u8 0])).run Try.prog w = .ok (s.l == sum0.l) w := by
  obtain ⟨i0, hi, _⟩ := info_parts info5
  exact eq_sum d Try.underlying79 Try.underlying5 (by kernel_rfl) hi _ _ s sum0 (by simp) rfl
attribute [local go_sem] A81_size A81_0 A81_1 A81_2 A81_3 A81_g0 A81_g1 A81_g2 A81_g3 cell_held frozen_held
attribute [local go_sem high] eqS0
set_option maxRecDepth 100000 in
set_option maxHeartbeats 1000000 in
theorem change_any (w : World) (c : S81) : Calls Try.prog 51 #[.agg (A81 c)] w fun e w' => e = .returned (.bool (chgOk c)) ∧ Below w.heap.size w w' := by
  have hu81 := Try.underlying81
  by_cases h1 : 1 ≤ c.f0
  · cases hn : ([c.f0, c.f3] : List Int).any badN
    · cases ht : ([c.f1] : List ByteArray).any badT
      · have hr : chgOk c = (!c.f2 || (c.f3 == 0 && c.f4.l == sum0.l)) := by
          simp only [List.any_cons, List.any_nil, Bool.or_false, Bool.or_eq_false_iff] at hn ht
          unfold chgOk
          rw [decide_eq_true h1, hn.1, hn.2, ht]
          simp
        rw [hr]
        clear hr
        cases hg : c.f2
        · simp only [Bool.not_false, Bool.true_or]
          go_enter Try.func51, Try.ntmps51
          go_wp2_with fail
          refine (nums_new [c.f0, c.f3] (by simp) rfl).mono ?_
          rw [hn]
          rintro e w1 ⟨rfl, hb⟩
          have p1 := prev_call hb
          clear hb
          go_wp2_with fail
          refine (texts_new [c.f1] (by simp) rfl).mono ?_
          rw [ht]
          rintro e w2 ⟨rfl, hb⟩
          have p2 := prev_call hb
          clear hb
          go_wp2_with fail
          go_ret
          exact ⟨rfl, bel _ _⟩
        · simp only [Bool.not_true, Bool.false_or]
          by_cases hz : c.f3 = 0
          · have hzb : (c.f3 == 0) = true := beq_iff_eq.mpr hz
            rw [hzb, Bool.true_and]
            clear hz
            go_enter Try.func51, Try.ntmps51
            go_wp2_with fail
            refine (nums_new [c.f0, c.f3] (by simp) rfl).mono ?_
            rw [hn]
            rintro e w1 ⟨rfl, hb⟩
            have p1 := prev_call hb
            clear hb
            go_wp2_with fail
            refine (texts_new [c.f1] (by simp) rfl).mono ?_
            rw [ht]
            rintro e w2 ⟨rfl, hb⟩
            have p2 := prev_call hb
            clear hb
            go_wp2_with (refine gate_guard (by rfl) ?_; dsimp only; refine seg_load rfl 79 (.tmp 29) rfl (At_seg held (fun j u h => A81_sum c j u h)) _ rfl rfl Try.underlying79 rfl (by rw [sumL_len]; exact info79) ?_)
            go_ret
            exact ⟨rfl, bel _ _⟩
          · have hzb : (c.f3 == 0) = false := beq_eq_false_iff_ne.mpr hz
            rw [hzb, Bool.false_and]
            clear hz
            go_enter Try.func51, Try.ntmps51
            go_wp2_with fail
            refine (nums_new [c.f0, c.f3] (by simp) rfl).mono ?_
            rw [hn]
            rintro e w1 ⟨rfl, hb⟩
            have p1 := prev_call hb
            clear hb
            go_wp2_with fail
            refine (texts_new [c.f1] (by simp) rfl).mono ?_
            rw [ht]
            rintro e w2 ⟨rfl, hb⟩
            have p2 := prev_call hb
            clear hb
            go_wp2_with fail
            go_ret
            exact ⟨rfl, bel _ _⟩
      · have hr : chgOk c = false := by
          simp only [List.any_cons, List.any_nil, Bool.or_false] at ht
          unfold chgOk
          rw [ht]
          simp
        rw [hr]
        go_enter Try.func51, Try.ntmps51
        go_wp2_with fail
        refine (nums_new [c.f0, c.f3] (by simp) rfl).mono ?_
        rw [hn]
        rintro e w1 ⟨rfl, hb⟩
        have p1 := prev_call hb
        clear hb
        go_wp2_with fail
        refine (texts_new [c.f1] (by simp) rfl).mono ?_
        rw [ht]
        rintro e w2 ⟨rfl, hb⟩
        have p2 := prev_call hb
        clear hb
        go_wp2_with fail
        go_ret
        exact ⟨rfl, bel _ _⟩
    · have hr : chgOk c = false := by
        simp only [List.any_cons, List.any_nil, Bool.or_false, Bool.or_eq_true] at hn
        unfold chgOk
        rcases hn with hn | hn <;> rw [hn] <;> simp
      rw [hr]
      go_enter Try.func51, Try.ntmps51
      go_wp2_with fail
      refine (nums_new [c.f0, c.f3] (by simp) rfl).mono ?_
      rw [hn]
      rintro e w1 ⟨rfl, hb⟩
      have p1 := prev_call hb
      clear hb
      go_wp2_with fail
      go_ret
      exact ⟨rfl, bel _ _⟩
  · have hr : chgOk c = false := by
      unfold chgOk
      rw [decide_eq_false h1]
      simp
    rw [hr]
    go_enter Try.func51, Try.ntmps51
    go_wp2_with fail
    go_ret
    exact ⟨rfl, bel _ _⟩
end Go.Proofs.Ytjaneipklpgnlaa.Q

namespace Go.Proofs.Ytjaneipklpgnlaa.Q
open Go Go.RowKit Go.Proofs.YtjaneipklpgnlaaK Go.Proofs.YtjaneipklpgnlaaW.PrintWords Go.Proofs.YtjaneipklpgnlaaW.PrintLast Go.Proofs.YtjaneipklpgnlaaW.PrintMore
set_option linter.unusedSimpArgs false
set_option linter.unusedVariables false
/-! ### May an answer be -/
theorem C81_at {w : World} {A : Option Addr} {l : List S81} (h : k81.C w A l.length l) (j : Nat) (hj : j < l.length) : ∃ ad, A = some ad ∧ At w (ad.add (j * 36)) (L81 l[j]) := by
  obtain ⟨ad, c, e, _, hK, hc0⟩ := Kd.C_get h z81 (j : Int) (by omega) (by omega)
  obtain rfl := k81_open hK
  refine ⟨ad, e, fun i u hi => ?_⟩
  have e1 : l.getD (j : Int).toNat z81 = l[j] := by simp [hj]
  rw [e1] at hc0
  have h2 := hc0 i u hi
  rw [Int.toNat_natCast] at h2
  rw [Go.Deep.add_add]
  exact h2
theorem At_below {w w' : World} {ad : Addr} {cs : List Value} (h : At w ad cs) (hb : Below w.heap.size w w') : At w' ad cs := fun j u hj => by
  have h1 := h j u hj
  exact (hb.cell (World.block_lt_of_cell? w _ h1)).trans h1
attribute [local go_sem] A81_size A81_0 A81_1 A81_2 A81_3 A81_g0 A81_g1 A81_g2 A81_g3 cell_held frozen_held
set_option maxRecDepth 100000 in
theorem chg_not (w : World) (c : S81) : Calls Try.prog 50 #[.agg (A81 c)] w fun e w' => e = .returned (.bool (!chgOk c)) ∧ Below w.heap.size w w' := by
  have hu81 := Try.underlying81
  go_enter Try.func50, Try.ntmps50
  go_wp2_with (refine box_load rfl 81 (.tmp 1) rfl held rfl hu81 rfl (by rw [A81_size]; exact info81) ?_)
  refine (change_any _ c).mono ?_
  rintro e w1 ⟨rfl, hb⟩
  have p1 := prev_call hb
  clear hb
  go_wp2_with fail
  go_ret
  exact ⟨rfl, bel _ _⟩
set_option maxRecDepth 100000 in
theorem chg_index (w : World) (A : Option Addr) (c : Nat) (l : List S81) (hr : k81.C w A l.length l) (hl : l.length ≤ 1048576) :
    Calls Try.prog 66 #[.slice A l.length c, .func (.func 50) #[] #[]] w fun e w' => e = .returned (.int .i64 (idxB (fun x => !chgOk x) 0 l)) ∧ Below w.heap.size w w' := by
  have hu81 := Try.underlying81
  have HR := Aside0.mk hr
  have HB0 := Aside0.mk (Below.refl w.heap.size w)
  clear hr
  go_enter Try.func66, Try.ntmps66
  go_wp2_with fail
  go_loopw [8] (fun i wr => ∃ j : Nat, j ≤ l.length ∧ i = .int .i64 (j : Int) ∧ Aside0 (idxB (fun x => !chgOk x) j (l.drop j) = idxB (fun x => !chgOk x) 0 l) ∧ Aside0 (Below w.heap.size w wr)) (fun i _ => l.length - (intOf i).toNat)
  case atStart => exact ⟨0, Nat.zero_le _, rfl, ⟨rfl⟩, HB0⟩
  case round =>
    obtain ⟨j, hj, rfl, HI, HB⟩ := hrel
    by_cases hlt : j < l.length
    · obtain ⟨ad, e, x0⟩ := C81_at HR.out j hlt
      subst e
      have hd := List.drop_eq_getElem_cons hlt
      generalize l[j] = x at x0 hd
      have HX := Aside0.mk (At_below x0 HB.out)
      have hI := HI.out
      rw [hd] at hI
      simp only [idxB] at hI
      have hp := fun W => chg_not W x
      clear hd x0
      by_cases ht : (!chgOk x) = true
      · rw [if_pos ht] at hI
        have HI' := Aside0.mk hI
        rw [ht] at hp
        have HP := Aside0.mk hp
        clear hI HI hp ht
        go_wp2_with (refine seg_load rfl 81 (.tmp 14) rfl HX.out (A81 x) rfl rfl hu81 rfl (by rw [L81_len]; exact info81) ?_)
        refine (HP.out _).mono ?_
        rintro e w1 ⟨rfl, hb1⟩
        go_wp2_with fail
        go_ret
        exact ⟨by rw [HI'.out]; rfl, below_step HB.out hb1⟩
      · rw [if_neg ht] at hI
        have HI' := Aside0.mk hI
        rw [Bool.eq_false_iff.2 ht] at hp
        have HP := Aside0.mk hp
        clear hI HI hp ht
        go_wp2_with (refine seg_load rfl 81 (.tmp 14) rfl HX.out (A81 x) rfl rfl hu81 rfl (by rw [L81_len]; exact info81) ?_)
        refine (HP.out _).mono ?_
        rintro e w1 ⟨rfl, hb1⟩
        go_wp2_with fail
        go_roundw
        case rel => exact ⟨j + 1, by omega, by go_num, HI', ⟨below_step HB.out hb1⟩⟩
        case measure => simp [intOf]; omega
    · have hI := HI.out
      rw [List.drop_of_length_le (by omega)] at hI
      have HI' := Aside0.mk hI
      clear hI HI
      go_wp2_with fail
      go_ret
      exact ⟨by rw [← HI'.out]; rfl, HB.out⟩
theorem chg_any (w : World) (A : Option Addr) (c : Nat) (l : List S81) (hr : k81.C w A l.length l) (hl : l.length ≤ 1048576) :
    Calls Try.prog 49 #[.slice A l.length c, .func (.func 50) #[] #[]] w fun e w' => e = .returned (.bool (l.any fun x => !chgOk x)) ∧ Below w.heap.size w w' := by
  have HC := Aside0.mk (chg_index w A c l hr hl)
  have hg := idxB_any (fun x => !chgOk x) l 0
  rw [← hg]
  clear hg hr
  go_enter Try.func49, Try.ntmps49
  go_wp2_with fail
  refine HC.out.mono ?_
  rintro e w1 ⟨rfl, hb1⟩
  have p1 := prev_call hb1
  clear hb1
  go_wp2_with fail
  go_ret
  exact ⟨rfl, bel _ _⟩
/-- An answer. -/
structure S42 where
  f0 : Int
  f1 : Int
  f2 : Int
  f3 : Int
  f4 : ByteArray
  f5 : List S81
def ansOk0 (a : S42) : Bool := decide (0 ≤ a.f0) && decide (a.f0 ≤ 19) && !([a.f1, a.f2, a.f3].any badN) && !([a.f4].any badT) && decide (a.f5.length ≤ 16)
def ansOk (a : S42) : Bool := ansOk0 a && !(a.f5.any fun x => !chgOk x)
abbrev ansV (a : S42) (A : Option Addr) (c : Nat) : Value := .agg #[.int .i64 a.f0, .int .i64 a.f1, .int .i64 a.f2, .int .i64 a.f3, .string a.f4, .slice A a.f5.length c]
theorem sure_f (w : World) : Calls Try.prog 39 #[.bool false] w fun e w' => e = .returned (.int .i64 2) ∧ w' = w := by
  go_enter Try.func39, Try.ntmps39
  go_wp2_with fail
  go_ret
  exact ⟨rfl, rfl⟩
theorem sure_t (w : World) : Calls Try.prog 39 #[.bool true] w fun e w' => e = .returned (.int .i64 0) ∧ w' = w := by
  go_enter Try.func39, Try.ntmps39
  go_wp2_with fail
  go_ret
  exact ⟨rfl, rfl⟩
set_option maxRecDepth 100000 in
set_option maxHeartbeats 1000000 in
theorem check_no (w : World) (a : S42) (A : Option Addr) (c : Nat) (h : ansOk0 a = false) :
    Calls Try.prog 21 #[ansV a A c] w fun e w' => e = .returned (.int .i64 2) ∧ Below w.heap.size w w' := by
  have hu42 := Try.underlying42
  unfold ansOk0 at h
  by_cases h1 : 0 ≤ a.f0
  · by_cases h2 : a.f0 ≤ 19
    · rw [decide_eq_true h1, decide_eq_true h2] at h
      cases hn : ([a.f1, a.f2, a.f3] : List Int).any badN
      · cases ht : ([a.f4] : List ByteArray).any badT
        · rw [hn, ht] at h
          have h5 : ¬ ((a.f5.length : Int) ≤ 16) := by
            intro h5
            rw [decide_eq_true (show a.f5.length ≤ 16 by omega)] at h
            exact absurd h (by decide)
          clear h
          go_enter Try.func21, Try.ntmps21
          go_wp2_with fail
          refine (nums_new [a.f1, a.f2, a.f3] (by simp) rfl).mono ?_
          rw [hn]
          rintro e w1 ⟨rfl, hb⟩
          have p1 := prev_call hb
          clear hb
          go_wp2_with fail
          refine (texts_new [a.f4] (by simp) rfl).mono ?_
          rw [ht]
          rintro e w2 ⟨rfl, hb⟩
          have p2 := prev_call hb
          clear hb
          go_wp2_with fail
          refine (sure_f _).mono ?_
          rintro e w8 ⟨rfl, rfl⟩
          go_wp2_with fail
          go_ret
          exact ⟨rfl, bel _ _⟩
        · clear h
          go_enter Try.func21, Try.ntmps21
          go_wp2_with fail
          refine (nums_new [a.f1, a.f2, a.f3] (by simp) rfl).mono ?_
          rw [hn]
          rintro e w1 ⟨rfl, hb⟩
          have p1 := prev_call hb
          clear hb
          go_wp2_with fail
          refine (texts_new [a.f4] (by simp) rfl).mono ?_
          rw [ht]
          rintro e w2 ⟨rfl, hb⟩
          have p2 := prev_call hb
          clear hb
          go_wp2_with fail
          refine (sure_f _).mono ?_
          rintro e w8 ⟨rfl, rfl⟩
          go_wp2_with fail
          go_ret
          exact ⟨rfl, bel _ _⟩
      · clear h
        go_enter Try.func21, Try.ntmps21
        go_wp2_with fail
        refine (nums_new [a.f1, a.f2, a.f3] (by simp) rfl).mono ?_
        rw [hn]
        rintro e w1 ⟨rfl, hb⟩
        have p1 := prev_call hb
        clear hb
        go_wp2_with fail
        refine (sure_f _).mono ?_
        rintro e w8 ⟨rfl, rfl⟩
        go_wp2_with fail
        go_ret
        exact ⟨rfl, bel _ _⟩
    · clear h
      go_enter Try.func21, Try.ntmps21
      go_wp2_with fail
      refine (sure_f _).mono ?_
      rintro e w8 ⟨rfl, rfl⟩
      go_wp2_with fail
      go_ret
      exact ⟨rfl, bel _ _⟩
  · clear h
    go_enter Try.func21, Try.ntmps21
    go_wp2_with fail
    refine (sure_f _).mono ?_
    rintro e w8 ⟨rfl, rfl⟩
    go_wp2_with fail
    go_ret
    exact ⟨rfl, bel _ _⟩
set_option maxRecDepth 100000 in
set_option maxHeartbeats 1000000 in
theorem check_yes (w : World) (a : S42) (A : Option Addr) (c : Nat) (hr : k81.C w A a.f5.length a.f5) (h : ansOk0 a = true) (b : Bool) (hq : (a.f5.any fun x => !chgOk x) = b) :
    Calls Try.prog 21 #[ansV a A c] w fun e w' => e = .returned (.int .i64 (if b = true then 2 else 0)) ∧ Below w.heap.size w w' := by
  have hu42 := Try.underlying42
  have HR := Aside0.mk hr
  unfold ansOk0 at h
  simp only [Bool.and_eq_true, Bool.not_eq_true', decide_eq_true_eq] at h
  obtain ⟨⟨⟨⟨h1, h2⟩, hn⟩, ht⟩, h5n⟩ := h
  have h5 : (a.f5.length : Int) ≤ 16 := by omega
  clear hr
  cases b
  all_goals have HQ := Aside0.mk hq
  all_goals clear hq
  all_goals
    go_enter Try.func21, Try.ntmps21
    go_wp2_with fail
    refine (nums_new [a.f1, a.f2, a.f3] (by simp) rfl).mono ?_
    rw [hn]
    rintro e w1 ⟨rfl, hb⟩
    have p1 := prev_call hb
    clear hb
    go_wp2_with fail
    refine (texts_new [a.f4] (by simp) rfl).mono ?_
    rw [ht]
    rintro e w2 ⟨rfl, hb⟩
    have p2 := prev_call hb
    clear hb
    go_wp2_with fail
    refine (chg_any _ _ _ a.f5 ?hC (by omega)).mono ?_
    case hC => exact Kd.C_below HR.out (bel _ _)
    rw [HQ.out]
    rintro e w3 ⟨rfl, hb⟩
    have p3 := prev_call hb
    clear hb
    go_wp2_with fail
    first
    | refine (sure_f _).mono ?_
    | refine (sure_t _).mono ?_
    rintro e w8 ⟨rfl, rfl⟩
    go_wp2_with fail
    go_ret
    exact ⟨rfl, bel _ _⟩
theorem ck_any (w : World) (a : S42) (A : Option Addr) (c : Nat) (hr : k81.C w A a.f5.length a.f5) :
    Calls Try.prog 21 #[ansV a A c] w fun e w' => e = .returned (.int .i64 (if ansOk a = true then 0 else 2)) ∧ Below w.heap.size w w' := by
  cases h : ansOk0 a
  · have H := check_no w a A c h
    unfold ansOk
    rw [h]
    exact H
  · have H := check_yes w a A c hr h _ rfl
    unfold ansOk
    rw [h, Bool.true_and]
    cases hq : (a.f5.any fun x => !chgOk x)
    · rw [hq] at H
      exact H
    · rw [hq] at H
      exact H
end Go.Proofs.Ytjaneipklpgnlaa.Q

namespace Go.Proofs.Ytjaneipklpgnlaa.Q
open Go Go.RowKit Go.Proofs.YtjaneipklpgnlaaK Go.Proofs.YtjaneipklpgnlaaW.PrintWords Go.Proofs.YtjaneipklpgnlaaW.PrintLast Go.Proofs.YtjaneipklpgnlaaW.PrintMore
set_option linter.unusedSimpArgs false
set_option linter.unusedVariables false
/-! ### A change's bytes -/
def sumS (s : Sum) : ByteArray := ⟨s.l.toArray⟩
def recL (c : S81) : List S84 := layN 1 [c.f0] ++ layT 2 [c.f1] ++ layN 3 [if c.f2 then 1 else 0, c.f3] ++ (if c.f2 then [] else layT 5 [sumS c.f4])
def recS (c : S81) : ByteArray × Int := if (encGo (recL c) 0 []).2 = 0 ∧ (encGo (recL c) 0 []).1.size > 4096 then (⟨#[]⟩, 3) else encGo (recL c) 0 []
theorem recL_len (c : S81) : (recL c).length ≤ 5 := by
  have h1 := layN_len [c.f0] 1
  have h2 := layT_len [c.f1] 2
  have h4 := layT_len [sumS c.f4] 5
  unfold recL
  generalize (if c.f2 = true then (1 : Int) else 0) = g
  have h3 := layN_len [g, c.f3] 3
  have h5 : (if c.f2 = true then [] else layT 5 [sumS c.f4]).length ≤ 1 := by
    split
    · exact Nat.zero_le _
    · exact h4
  simp only [List.length_append, List.length_cons, List.length_nil] at h1 h2 h3 h5 ⊢
  omega
theorem layN_c {W : World} (base b : Nat) {v : Value} {L : List S84} (tag : Int) (vs : List Int) {cs : Array Value} [h : Holds W b (.cells cs 3 (0, 0))] (e : cs = (vs.map (Value.int .i64)).toArray) (ht0 : 0 ≤ tag) (ht1 : tag ≤ 1000)
    (hv : Kd.R k84 84 W base (fun _ => True) v L) (hbase : base ≤ W.heap.size) (hlen : L.length + vs.length ≤ 1048576) :
    Calls Try.prog 24 #[v, .int .i64 tag, .func (.func 25) #[] #[], .slice (some ⟨b, 0, none⟩) vs.length vs.length] W fun e w' => ∃ v' : Value, e = .returned v' ∧ Kd.R k84 84 w' base (fun _ => True) v' (L ++ layN tag vs) ∧ Below base W w' :=
  lay_num_any W base b _ v L tag vs ht0 ht1 hv hbase hlen (e ▸ h.out)
theorem layT_c {W : World} (base b : Nat) {v : Value} {L : List S84} (tag : Int) (vs : List ByteArray) {cs : Array Value} [h : Holds W b (.cells cs 9 (0, 0))] (e : cs = (vs.map Value.string).toArray) (ht0 : 0 ≤ tag) (ht1 : tag ≤ 1000)
    (hv : Kd.R k84 84 W base (fun _ => True) v L) (hbase : base ≤ W.heap.size) (hlen : L.length + vs.length ≤ 1048576) :
    Calls Try.prog 27 #[v, .int .i64 tag, .func (.func 28) #[] #[], .slice (some ⟨b, 0, none⟩) vs.length vs.length] W fun e w' => ∃ v' : Value, e = .returned v' ∧ Kd.R k84 84 w' base (fun _ => True) v' (L ++ layT tag vs) ∧ Below base W w' :=
  lay_text_any W base b _ v L tag vs ht0 ht1 hv hbase hlen (e ▸ h.out)
theorem encode_c {W : World} {base : Nat} {v : Value} {L : List S84} (hv : Kd.R k84 84 W base (fun _ => True) v L) (hL : L.length ≤ 1048576) (t : ByteArray) (q : Int) (he : encGo L 0 [] = (t, q)) :
    Calls Try.prog 26 #[v] W fun e w' => e = .returned (.tuple #[.string t, .int .i64 q]) ∧ Below W.heap.size W w' := by
  obtain ⟨A3, k3, he3, hk3, hc3⟩ := Kd.R_reads hv
  subst he3
  exact field_Encode.calls (L.length + 12) A3 k3 L t q W hc3 hk3 (by rw [enc_fn L hL _ (Nat.le_refl _), he])
attribute [local go_sem] A81_size A81_0 A81_1 A81_2 A81_3 A81_g0 A81_g1 A81_g2 A81_g3 cell_held frozen_held
set_option maxRecDepth 100000 in
set_option maxHeartbeats 4000000 in
theorem rec_live (w : World) (c : S81) (hg : c.f2 = false) (t : ByteArray) (q : Int) (hq : encGo (([] ++ layN 1 [c.f0] ++ layT 2 [c.f1] ++ layN 3 [0, c.f3]) ++ layT 5 [⟨c.f4.l.toArray⟩]) 0 [] = (t, q)) (hL : (([] ++ layN 1 [c.f0] ++ layT 2 [c.f1] ++ layN 3 [0, c.f3]) ++ layT 5 [⟨c.f4.l.toArray⟩]).length ≤ 5) (r : ByteArray × Int) (hm : (q = 0 ∧ t.size > 4096 ∧ r = (⟨#[]⟩, 3)) ∨ (q = 0 ∧ ¬ t.size > 4096 ∧ r = (t, 0)) ∨ (q ≠ 0 ∧ r = (t, q))) :
    Calls Try.prog 43 #[.agg (A81 c)] w fun e w' => e = .returned (.tuple #[.string r.1, .int .i64 r.2]) ∧ Below w.heap.size w w' := by
  have hu81 := Try.underlying81
  have HQ := Aside0.mk hq
  have HL := Aside0.mk hL
  clear hq hL
  rcases hm with ⟨h0, h4, hr⟩ | ⟨h0, h4, hr⟩ | ⟨h0, hr⟩
  all_goals subst hr
  · subst h0
    have h5 : (4096 : Int) < (t.size : Int) := by omega
    clear h4
    go_enter Try.func43, Try.ntmps43
    go_wp2_with fail
    refine (layN_c (w.heap.size + 2) (w.heap.size + 1) 1 [c.f0] rfl (by decide) (by decide) (Kd.R_nil _ _ _ _ _) ?hB (by simp)).mono ?_
    case hB => simp only [World.size_alloc]; omega
    rintro e w1 ⟨v1, rfl, hv1, hb⟩
    have p1 := prev_above hb
    have s1 := hb.size
    simp only [World.size_alloc] at s1
    have HV1 := Aside0.mk hv1
    clear hb hv1
    go_wp2_with fail
    refine (layT_c (w.heap.size + 2) w1.heap.size 2 [c.f1] rfl (by decide) (by decide) (rowK HV1.out) ?hB ?hL).mono ?_
    case hB => simp only [World.size_alloc]; omega
    case hL => have := layN_len [c.f0] 1; simp only [List.nil_append, List.length_cons, List.length_nil] at this ⊢; omega
    rintro e w2 ⟨v2, rfl, hv2, hb⟩
    have p2 := prev_above hb
    have s2 := hb.size
    simp only [World.size_alloc] at s2
    have HV2 := Aside0.mk hv2
    clear hb hv2
    go_wp2_with fail
    refine (layN_c (w.heap.size + 2) w2.heap.size 3 [0, c.f3] rfl (by decide) (by decide) (rowK HV2.out) ?hB ?hL).mono ?_
    case hB => simp only [World.size_alloc]; omega
    case hL => have h1 := layN_len [c.f0] 1; have h2 := layT_len [c.f1] 2; simp only [List.nil_append, List.length_append, List.length_cons, List.length_nil] at h1 h2 ⊢; omega
    rintro e w3 ⟨v3, rfl, hv3, hb⟩
    have p3 := prev_above hb
    have s3 := hb.size
    simp only [World.size_alloc] at s3
    have HV3 := Aside0.mk hv3
    clear hb hv3
    go_wp2_with (refine sumstr_event rfl (src := 38) (dst := 9) (e := 5) rfl (At_seg held (fun j u h => A81_sum c j u h)) rfl Try.underlying38 Try.underlying5 Try.underlying9 ?_)
    refine (layT_c (w.heap.size + 2) w3.heap.size 5 [⟨c.f4.l.toArray⟩] rfl (by decide) (by decide) (rowK HV3.out) ?hB ?hL).mono ?_
    case hB => simp only [World.size_alloc]; omega
    case hL => have h1 := layN_len [c.f0] 1; have h2 := layT_len [c.f1] 2; have h3 := layN_len [0, c.f3] 3; simp only [List.nil_append, List.length_append, List.length_cons, List.length_nil] at h1 h2 h3 ⊢; omega
    rintro e w4 ⟨v4, rfl, hv4, hb⟩
    have p4 := prev_above hb
    have HV4 := Aside0.mk hv4
    clear hb hv4
    go_wp2_with fail
    refine (encode_c HV4.out (by have := HL.out; omega) _ _ HQ.out).mono ?_
    rintro e w5 ⟨rfl, hb⟩
    have p5 := prev_call hb
    clear hb
    go_wp2_with fail
    go_ret2
    exact ⟨rfl, bel _ _⟩
  · subst h0
    have h5 : ¬ (4096 : Int) < (t.size : Int) := by omega
    clear h4
    go_enter Try.func43, Try.ntmps43
    go_wp2_with fail
    refine (layN_c (w.heap.size + 2) (w.heap.size + 1) 1 [c.f0] rfl (by decide) (by decide) (Kd.R_nil _ _ _ _ _) ?hB (by simp)).mono ?_
    case hB => simp only [World.size_alloc]; omega
    rintro e w1 ⟨v1, rfl, hv1, hb⟩
    have p1 := prev_above hb
    have s1 := hb.size
    simp only [World.size_alloc] at s1
    have HV1 := Aside0.mk hv1
    clear hb hv1
    go_wp2_with fail
    refine (layT_c (w.heap.size + 2) w1.heap.size 2 [c.f1] rfl (by decide) (by decide) (rowK HV1.out) ?hB ?hL).mono ?_
    case hB => simp only [World.size_alloc]; omega
    case hL => have := layN_len [c.f0] 1; simp only [List.nil_append, List.length_cons, List.length_nil] at this ⊢; omega
    rintro e w2 ⟨v2, rfl, hv2, hb⟩
    have p2 := prev_above hb
    have s2 := hb.size
    simp only [World.size_alloc] at s2
    have HV2 := Aside0.mk hv2
    clear hb hv2
    go_wp2_with fail
    refine (layN_c (w.heap.size + 2) w2.heap.size 3 [0, c.f3] rfl (by decide) (by decide) (rowK HV2.out) ?hB ?hL).mono ?_
    case hB => simp only [World.size_alloc]; omega
    case hL => have h1 := layN_len [c.f0] 1; have h2 := layT_len [c.f1] 2; simp only [List.nil_append, List.length_append, List.length_cons, List.length_nil] at h1 h2 ⊢; omega
    rintro e w3 ⟨v3, rfl, hv3, hb⟩
    have p3 := prev_above hb
    have s3 := hb.size
    simp only [World.size_alloc] at s3
    have HV3 := Aside0.mk hv3
    clear hb hv3
    go_wp2_with (refine sumstr_event rfl (src := 38) (dst := 9) (e := 5) rfl (At_seg held (fun j u h => A81_sum c j u h)) rfl Try.underlying38 Try.underlying5 Try.underlying9 ?_)
    refine (layT_c (w.heap.size + 2) w3.heap.size 5 [⟨c.f4.l.toArray⟩] rfl (by decide) (by decide) (rowK HV3.out) ?hB ?hL).mono ?_
    case hB => simp only [World.size_alloc]; omega
    case hL => have h1 := layN_len [c.f0] 1; have h2 := layT_len [c.f1] 2; have h3 := layN_len [0, c.f3] 3; simp only [List.nil_append, List.length_append, List.length_cons, List.length_nil] at h1 h2 h3 ⊢; omega
    rintro e w4 ⟨v4, rfl, hv4, hb⟩
    have p4 := prev_above hb
    have HV4 := Aside0.mk hv4
    clear hb hv4
    go_wp2_with fail
    refine (encode_c HV4.out (by have := HL.out; omega) _ _ HQ.out).mono ?_
    rintro e w5 ⟨rfl, hb⟩
    have p5 := prev_call hb
    clear hb
    go_wp2_with fail
    go_ret2
    exact ⟨rfl, bel _ _⟩
  · have h5 : (q == 0) = false := beq_eq_false_iff_ne.mpr h0
    clear h0
    go_enter Try.func43, Try.ntmps43
    go_wp2_with fail
    refine (layN_c (w.heap.size + 2) (w.heap.size + 1) 1 [c.f0] rfl (by decide) (by decide) (Kd.R_nil _ _ _ _ _) ?hB (by simp)).mono ?_
    case hB => simp only [World.size_alloc]; omega
    rintro e w1 ⟨v1, rfl, hv1, hb⟩
    have p1 := prev_above hb
    have s1 := hb.size
    simp only [World.size_alloc] at s1
    have HV1 := Aside0.mk hv1
    clear hb hv1
    go_wp2_with fail
    refine (layT_c (w.heap.size + 2) w1.heap.size 2 [c.f1] rfl (by decide) (by decide) (rowK HV1.out) ?hB ?hL).mono ?_
    case hB => simp only [World.size_alloc]; omega
    case hL => have := layN_len [c.f0] 1; simp only [List.nil_append, List.length_cons, List.length_nil] at this ⊢; omega
    rintro e w2 ⟨v2, rfl, hv2, hb⟩
    have p2 := prev_above hb
    have s2 := hb.size
    simp only [World.size_alloc] at s2
    have HV2 := Aside0.mk hv2
    clear hb hv2
    go_wp2_with fail
    refine (layN_c (w.heap.size + 2) w2.heap.size 3 [0, c.f3] rfl (by decide) (by decide) (rowK HV2.out) ?hB ?hL).mono ?_
    case hB => simp only [World.size_alloc]; omega
    case hL => have h1 := layN_len [c.f0] 1; have h2 := layT_len [c.f1] 2; simp only [List.nil_append, List.length_append, List.length_cons, List.length_nil] at h1 h2 ⊢; omega
    rintro e w3 ⟨v3, rfl, hv3, hb⟩
    have p3 := prev_above hb
    have s3 := hb.size
    simp only [World.size_alloc] at s3
    have HV3 := Aside0.mk hv3
    clear hb hv3
    go_wp2_with (refine sumstr_event rfl (src := 38) (dst := 9) (e := 5) rfl (At_seg held (fun j u h => A81_sum c j u h)) rfl Try.underlying38 Try.underlying5 Try.underlying9 ?_)
    refine (layT_c (w.heap.size + 2) w3.heap.size 5 [⟨c.f4.l.toArray⟩] rfl (by decide) (by decide) (rowK HV3.out) ?hB ?hL).mono ?_
    case hB => simp only [World.size_alloc]; omega
    case hL => have h1 := layN_len [c.f0] 1; have h2 := layT_len [c.f1] 2; have h3 := layN_len [0, c.f3] 3; simp only [List.nil_append, List.length_append, List.length_cons, List.length_nil] at h1 h2 h3 ⊢; omega
    rintro e w4 ⟨v4, rfl, hv4, hb⟩
    have p4 := prev_above hb
    have HV4 := Aside0.mk hv4
    clear hb hv4
    go_wp2_with fail
    refine (encode_c HV4.out (by have := HL.out; omega) _ _ HQ.out).mono ?_
    rintro e w5 ⟨rfl, hb⟩
    have p5 := prev_call hb
    clear hb
    go_wp2_with fail
    go_ret2
    exact ⟨rfl, bel _ _⟩
set_option maxRecDepth 100000 in
set_option maxHeartbeats 4000000 in
theorem rec_gone (w : World) (c : S81) (hg : c.f2 = true) (t : ByteArray) (q : Int) (hq : encGo ([] ++ layN 1 [c.f0] ++ layT 2 [c.f1] ++ layN 3 [1, c.f3]) 0 [] = (t, q)) (hL : ([] ++ layN 1 [c.f0] ++ layT 2 [c.f1] ++ layN 3 [1, c.f3]).length ≤ 5) (r : ByteArray × Int) (hm : (q = 0 ∧ t.size > 4096 ∧ r = (⟨#[]⟩, 3)) ∨ (q = 0 ∧ ¬ t.size > 4096 ∧ r = (t, 0)) ∨ (q ≠ 0 ∧ r = (t, q))) :
    Calls Try.prog 43 #[.agg (A81 c)] w fun e w' => e = .returned (.tuple #[.string r.1, .int .i64 r.2]) ∧ Below w.heap.size w w' := by
  have hu81 := Try.underlying81
  have HQ := Aside0.mk hq
  have HL := Aside0.mk hL
  clear hq hL
  rcases hm with ⟨h0, h4, hr⟩ | ⟨h0, h4, hr⟩ | ⟨h0, hr⟩
  all_goals subst hr
  · subst h0
    have h5 : (4096 : Int) < (t.size : Int) := by omega
    clear h4
    go_enter Try.func43, Try.ntmps43
    go_wp2_with fail
    refine (layN_c (w.heap.size + 2) (w.heap.size + 1) 1 [c.f0] rfl (by decide) (by decide) (Kd.R_nil _ _ _ _ _) ?hB (by simp)).mono ?_
    case hB => simp only [World.size_alloc]; omega
    rintro e w1 ⟨v1, rfl, hv1, hb⟩
    have p1 := prev_above hb
    have s1 := hb.size
    simp only [World.size_alloc] at s1
    have HV1 := Aside0.mk hv1
    clear hb hv1
    go_wp2_with fail
    refine (layT_c (w.heap.size + 2) w1.heap.size 2 [c.f1] rfl (by decide) (by decide) (rowK HV1.out) ?hB ?hL).mono ?_
    case hB => simp only [World.size_alloc]; omega
    case hL => have := layN_len [c.f0] 1; simp only [List.nil_append, List.length_cons, List.length_nil] at this ⊢; omega
    rintro e w2 ⟨v2, rfl, hv2, hb⟩
    have p2 := prev_above hb
    have s2 := hb.size
    simp only [World.size_alloc] at s2
    have HV2 := Aside0.mk hv2
    clear hb hv2
    go_wp2_with fail
    refine (layN_c (w.heap.size + 2) w2.heap.size 3 [1, c.f3] rfl (by decide) (by decide) (rowK HV2.out) ?hB ?hL).mono ?_
    case hB => simp only [World.size_alloc]; omega
    case hL => have h1 := layN_len [c.f0] 1; have h2 := layT_len [c.f1] 2; simp only [List.nil_append, List.length_append, List.length_cons, List.length_nil] at h1 h2 ⊢; omega
    rintro e w3 ⟨v3, rfl, hv3, hb⟩
    have p3 := prev_above hb
    have s3 := hb.size
    simp only [World.size_alloc] at s3
    have HV3 := Aside0.mk hv3
    clear hb hv3
    go_wp2_with fail
    refine (encode_c HV3.out (by have := HL.out; omega) _ _ HQ.out).mono ?_
    rintro e w5 ⟨rfl, hb⟩
    have p5 := prev_call hb
    clear hb
    go_wp2_with fail
    go_ret2
    exact ⟨rfl, bel _ _⟩
  · subst h0
    have h5 : ¬ (4096 : Int) < (t.size : Int) := by omega
    clear h4
    go_enter Try.func43, Try.ntmps43
    go_wp2_with fail
    refine (layN_c (w.heap.size + 2) (w.heap.size + 1) 1 [c.f0] rfl (by decide) (by decide) (Kd.R_nil _ _ _ _ _) ?hB (by simp)).mono ?_
    case hB => simp only [World.size_alloc]; omega
    rintro e w1 ⟨v1, rfl, hv1, hb⟩
    have p1 := prev_above hb
    have s1 := hb.size
    simp only [World.size_alloc] at s1
    have HV1 := Aside0.mk hv1
    clear hb hv1
    go_wp2_with fail
    refine (layT_c (w.heap.size + 2) w1.heap.size 2 [c.f1] rfl (by decide) (by decide) (rowK HV1.out) ?hB ?hL).mono ?_
    case hB => simp only [World.size_alloc]; omega
    case hL => have := layN_len [c.f0] 1; simp only [List.nil_append, List.length_cons, List.length_nil] at this ⊢; omega
    rintro e w2 ⟨v2, rfl, hv2, hb⟩
    have p2 := prev_above hb
    have s2 := hb.size
    simp only [World.size_alloc] at s2
    have HV2 := Aside0.mk hv2
    clear hb hv2
    go_wp2_with fail
    refine (layN_c (w.heap.size + 2) w2.heap.size 3 [1, c.f3] rfl (by decide) (by decide) (rowK HV2.out) ?hB ?hL).mono ?_
    case hB => simp only [World.size_alloc]; omega
    case hL => have h1 := layN_len [c.f0] 1; have h2 := layT_len [c.f1] 2; simp only [List.nil_append, List.length_append, List.length_cons, List.length_nil] at h1 h2 ⊢; omega
    rintro e w3 ⟨v3, rfl, hv3, hb⟩
    have p3 := prev_above hb
    have s3 := hb.size
    simp only [World.size_alloc] at s3
    have HV3 := Aside0.mk hv3
    clear hb hv3
    go_wp2_with fail
    refine (encode_c HV3.out (by have := HL.out; omega) _ _ HQ.out).mono ?_
    rintro e w5 ⟨rfl, hb⟩
    have p5 := prev_call hb
    clear hb
    go_wp2_with fail
    go_ret2
    exact ⟨rfl, bel _ _⟩
  · have h5 : (q == 0) = false := beq_eq_false_iff_ne.mpr h0
    clear h0
    go_enter Try.func43, Try.ntmps43
    go_wp2_with fail
    refine (layN_c (w.heap.size + 2) (w.heap.size + 1) 1 [c.f0] rfl (by decide) (by decide) (Kd.R_nil _ _ _ _ _) ?hB (by simp)).mono ?_
    case hB => simp only [World.size_alloc]; omega
    rintro e w1 ⟨v1, rfl, hv1, hb⟩
    have p1 := prev_above hb
    have s1 := hb.size
    simp only [World.size_alloc] at s1
    have HV1 := Aside0.mk hv1
    clear hb hv1
    go_wp2_with fail
    refine (layT_c (w.heap.size + 2) w1.heap.size 2 [c.f1] rfl (by decide) (by decide) (rowK HV1.out) ?hB ?hL).mono ?_
    case hB => simp only [World.size_alloc]; omega
    case hL => have := layN_len [c.f0] 1; simp only [List.nil_append, List.length_cons, List.length_nil] at this ⊢; omega
    rintro e w2 ⟨v2, rfl, hv2, hb⟩
    have p2 := prev_above hb
    have s2 := hb.size
    simp only [World.size_alloc] at s2
    have HV2 := Aside0.mk hv2
    clear hb hv2
    go_wp2_with fail
    refine (layN_c (w.heap.size + 2) w2.heap.size 3 [1, c.f3] rfl (by decide) (by decide) (rowK HV2.out) ?hB ?hL).mono ?_
    case hB => simp only [World.size_alloc]; omega
    case hL => have h1 := layN_len [c.f0] 1; have h2 := layT_len [c.f1] 2; simp only [List.nil_append, List.length_append, List.length_cons, List.length_nil] at h1 h2 ⊢; omega
    rintro e w3 ⟨v3, rfl, hv3, hb⟩
    have p3 := prev_above hb
    have s3 := hb.size
    simp only [World.size_alloc] at s3
    have HV3 := Aside0.mk hv3
    clear hb hv3
    go_wp2_with fail
    refine (encode_c HV3.out (by have := HL.out; omega) _ _ HQ.out).mono ?_
    rintro e w5 ⟨rfl, hb⟩
    have p5 := prev_call hb
    clear hb
    go_wp2_with fail
    go_ret2
    exact ⟨rfl, bel _ _⟩
theorem rec_any (w : World) (c : S81) : Calls Try.prog 43 #[.agg (A81 c)] w fun e w' => e = .returned (.tuple #[.string (recS c).1, .int .i64 (recS c).2]) ∧ Below w.heap.size w w' := by
  have hL := recL_len c
  obtain ⟨t, q, hq⟩ : ∃ t q, encGo (recL c) 0 [] = (t, q) := ⟨_, _, rfl⟩
  have hm : (q = 0 ∧ t.size > 4096 ∧ recS c = (⟨#[]⟩, 3)) ∨ (q = 0 ∧ ¬ t.size > 4096 ∧ recS c = (t, 0)) ∨ (q ≠ 0 ∧ recS c = (t, q)) := by
    unfold recS
    rw [hq]
    by_cases h0 : q = 0
    · subst h0
      by_cases h4 : t.size > 4096
      · exact .inl ⟨rfl, h4, by rw [if_pos ⟨rfl, h4⟩]⟩
      · exact .inr (.inl ⟨rfl, h4, by rw [if_neg (fun h => h4 h.2)]⟩)
    · exact .inr (.inr ⟨h0, by rw [if_neg (fun h => h0 h.1)]⟩)
  cases hg : c.f2
  · have hl : recL c = ([] ++ layN 1 [c.f0] ++ layT 2 [c.f1] ++ layN 3 [0, c.f3]) ++ layT 5 [⟨c.f4.l.toArray⟩] := by unfold recL; rw [hg]; rfl
    rw [hl] at hq hL
    exact rec_live w c hg t q hq hL _ hm
  · have hl : recL c = [] ++ layN 1 [c.f0] ++ layT 2 [c.f1] ++ layN 3 [1, c.f3] := by unfold recL; rw [hg]; simp
    rw [hl] at hq hL
    exact rec_gone w c hg t q hq hL _ hm
end Go.Proofs.Ytjaneipklpgnlaa.Q

namespace Go.Proofs.Ytjaneipklpgnlaa.Q
open Go Go.RowKit Go.Proofs.YtjaneipklpgnlaaK Go.Proofs.YtjaneipklpgnlaaW.PrintWords Go.Proofs.YtjaneipklpgnlaaW.PrintLast Go.Proofs.YtjaneipklpgnlaaW.PrintMore
set_option linter.unusedSimpArgs false
set_option linter.unusedVariables false
/-! ### An answer's bytes -/
def ansGo : List S81 → List S84 → ByteArray × Int
  | [], L => encGo L 0 []
  | c :: l, L => if (recS c).2 = 0 then ansGo l (L ++ [fldT 6 (recS c).1]) else (⟨#[]⟩, (recS c).2)
def ansL0 (a : S42) : List S84 := layN 1 [a.f0, a.f1, a.f2, a.f3] ++ layT 5 [a.f4]
def ansS (a : S42) : ByteArray × Int := if ansOk a = true then ansGo a.f5 (ansL0 a) else (⟨#[]⟩, 2)
theorem ansL0_len (a : S42) : (ansL0 a).length ≤ 5 := by
  have h1 := layN_len [a.f0, a.f1, a.f2, a.f3] 1
  have h2 := layT_len [a.f4] 5
  unfold ansL0
  simp only [List.length_append, List.length_cons, List.length_nil] at h1 h2 ⊢
  omega
theorem ansOk_len (a : S42) (h : ansOk a = true) : a.f5.length ≤ 16 := by
  unfold ansOk ansOk0 at h
  simp only [Bool.and_eq_true] at h
  exact of_decide_eq_true h.1.2
theorem A81_one (x : S81) : (A81 x).toList.all (·.oneCell') = true := by
  rw [List.all_eq_true]
  intro u hu
  have h := k81.K_one (w := default) (x := x) (cs := L81 x) (k81.K_of_M (k81_mkM default 0 (fun _ => True) x))
  exact h u (by simpa [A81] using hu)
abbrev Z81 : Array Value := #[.int .i64 0, .string ⟨#[]⟩, .bool false, .int .i64 0, .int .u8 0, .int .u8 0, .int .u8 0, .int .u8 0, .int .u8 0, .int .u8 0, .int .u8 0, .int .u8 0, .int .u8 0, .int .u8 0, .int .u8 0, .int .u8 0, .int .u8 0, .int .u8 0, .int .u8 0, .int .u8 0, .int .u8 0, .int .u8 0, .int .u8 0, .int .u8 0, .int .u8 0, .int .u8 0, .int .u8 0, .int .u8 0, .int .u8 0, .int .u8 0, .int .u8 0, .int .u8 0, .int .u8 0, .int .u8 0, .int .u8 0, .int .u8 0]
attribute [local go_sem] A81_size A81_0 A81_1 A81_2 A81_3 A81_g0 A81_g1 A81_g2 A81_g3 cell_held frozen_held
set_option maxRecDepth 100000 in
set_option maxHeartbeats 2000000 in
theorem answer_no (w : World) (a : S42) (A : Option Addr) (c : Nat) (hr : k81.C w A a.f5.length a.f5) (h : ansOk a = false) :
    Calls Try.prog 17 #[ansV a A c] w fun e w' => e = .returned (.tuple #[.string ⟨#[]⟩, .int .i64 2]) ∧ Below w.heap.size w w' := by
  have hu42 := Try.underlying42
  have hck := fun (W : World) (hC : k81.C W A a.f5.length a.f5) => ck_any W a A c hC
  rw [h] at hck
  have HCK := Aside0.mk hck
  have HR := Aside0.mk hr
  clear hr h hck
  go_enter Try.func17, Try.ntmps17
  go_wp2_with fail
  refine (HCK.out _ ?hC).mono ?_
  case hC => exact Kd.C_below HR.out (bel _ _)
  rintro e w1 ⟨rfl, hb⟩
  have p1 := prev_call hb
  clear hb
  go_wp2_with fail
  go_ret2
  exact ⟨rfl, bel _ _⟩
set_option maxRecDepth 100000 in
set_option maxHeartbeats 4000000 in
theorem answer_yes (w : World) (a : S42) (A : Option Addr) (c : Nat) (hr : k81.C w A a.f5.length a.f5) (h : ansOk a = true) (t : ByteArray) (q : Int) (hq : ansGo a.f5 (ansL0 a) = (t, q)) :
    Calls Try.prog 17 #[ansV a A c] w fun e w' => e = .returned (.tuple #[.string t, .int .i64 q]) ∧ Below w.heap.size w w' := by
  have hu42 := Try.underlying42
  have hu81 := Try.underlying81
  have hu84 := Try.underlying84
  have hlen := ansOk_len a h
  have hck := fun (W : World) (hC : k81.C W A a.f5.length a.f5) => ck_any W a A c hC
  rw [h, if_pos rfl] at hck
  have HCK := Aside0.mk hck
  have HR := Aside0.mk hr
  have HQ := Aside0.mk hq
  clear hr h hck hq
  go_enter Try.func17, Try.ntmps17
  go_wp2_with fail
  refine (HCK.out _ ?hC).mono ?_
  case hC => exact Kd.C_below HR.out (bel _ _)
  rintro e w1 ⟨rfl, hb⟩
  have p1 := prev_call hb
  have s1 := hb.size
  simp only [World.size_alloc] at s1
  clear hb
  obtain ⟨B, hB⟩ : ∃ B, B = w1.heap.size + 1 := ⟨_, rfl⟩
  have aB : Apart w.heap.size (.above B) := apart_lt (by omega)
  have oB : OwnB w.heap.size (.above B) := own_above (by omega)
  have HB := Aside0.mk hB
  clear hB
  go_wp2_with fail
  refine (layN_c B w1.heap.size 1 [a.f0, a.f1, a.f2, a.f3] rfl (by decide) (by decide) (Kd.R_nil _ _ _ _ _) ?hB (by simp)).mono ?_
  case hB => simp only [World.size_alloc]; have := HB.out; omega
  rintro e w2 ⟨v2, rfl, hv2, hb⟩
  have p2 := prev_above hb
  have s2 := hb.size
  simp only [World.size_alloc] at s2
  have HV2 := Aside0.mk hv2
  clear hb hv2
  go_wp2_with fail
  refine (layT_c B w2.heap.size 5 [a.f4] rfl (by decide) (by decide) (rowK HV2.out) ?hB ?hL).mono ?_
  case hB => simp only [World.size_alloc]; have := HB.out; omega
  case hL => have := layN_len [a.f0, a.f1, a.f2, a.f3] 1; simp only [List.nil_append, List.length_cons, List.length_nil] at this ⊢; omega
  rintro e w3 ⟨v3, rfl, hv3, hb⟩
  have p3 := prev_above hb
  have s3 := hb.size
  simp only [World.size_alloc] at s3
  have hv3' : Kd.R k84 84 w3 B (fun _ => True) v3 (ansL0 a) := hv3
  have HV3 := Aside0.mk hv3'
  have hB3 : B ≤ w3.heap.size := by have := HB.out; omega
  clear hb hv3 hv3'
  go_wp2_with fail
  go_loopw [5, 33] (fun u i wr => ∃ j : Nat, ∃ L : List S84, j ≤ a.f5.length ∧ i = .int .i64 (j : Int) ∧ Aside0 (ansGo (a.f5.drop j) L = (t, q)) ∧ L.length ≤ 5 + j ∧ Aside0 (Kd.R k84 84 wr B (fun _ => True) u L) ∧ Aside0 (Below B w3 wr)) (fun u i _ => a.f5.length - (intOf i).toNat)
  case atStart => exact ⟨0, _, Nat.zero_le _, rfl, HQ, ansL0_len a, HV3, ⟨Below.refl _ _⟩⟩
  case round =>
    obtain ⟨j, L, hj, rfl, HI, hl, HU, HBr⟩ := hrel
    have pr := prev_above HBr.out
    have sr := HBr.out.size
    obtain ⟨A1, c1, rfl⟩ := Kd.R_slice HU.out
    by_cases hlt : j < a.f5.length
    · obtain ⟨ad, e, x0⟩ := C81_at HR.out j hlt
      subst e
      have hd := List.drop_eq_getElem_cons hlt
      have hI := HI.out
      rw [hd] at hI
      generalize a.f5[j] = x at x0 hI
      simp only [ansGo] at hI
      have HX := Aside0.mk (At_below x0 (bel w wr))
      have hr := fun W => rec_any W x
      clear hd x0
      by_cases hx : (recS x).2 = 0
      · rw [if_pos hx] at hI
        obtain ⟨s, z, hs⟩ : ∃ s z, recS x = (s, z) := ⟨_, _, rfl⟩
        rw [hs] at hx hI hr
        simp only at hx hI
        subst hx
        have HI' := Aside0.mk hI
        have HRC := Aside0.mk hr
        clear hI HI hr hs
        go_wp2_with (first
          | (refine seg_load rfl 81 (.tmp 35) rfl HX.out (A81 x) rfl rfl hu81 rfl (by rw [L81_len]; exact info81) ?_)
          | (refine box_store rfl rfl 81 (.tmp 7) (.tmp 36) rfl held (A81 x) rfl rfl (by rw [A81_size]; exact info81) (by rw [A81_size]; rfl) (A81_one x) ?_
             intro w4 hx4 hg4
             have p4 := prev_row hg4
             have h4 : Holds w4 wr.heap.size (.cells (A81 x) 81) := ⟨hx4⟩
             have a4 : Apart w.heap.size (.row wr.heap.size) := apart_ne (by have := HB.out; omega)
             have o4 : OwnB w.heap.size (.row wr.heap.size) := own_row (by have := HB.out; omega)
             have ob4 : OwnB B (.row wr.heap.size) := own_row (by omega)
             have n4 : NoRow (84 :: k84.E) (wr.alloc (.cells Z81 81)) (.row wr.heap.size) := noRow_row held (by decide)
             have s4 := hg4.size
             simp only [World.size_alloc] at s4
             clear hx4 hg4)
          | (refine box_load rfl 81 (.tmp 7) rfl held rfl hu81 rfl (by rw [A81_size]; exact info81) ?_))
        refine (HRC.out _).mono ?_
        rintro e w5 ⟨rfl, hb⟩
        have p5 := prev_call hb
        have s5 := hb.size
        clear hb
        go_wp2_with ((with_reducible refine gate_builtin (b := .append) (xs := #[.tmp 45, .tmp 48]) rfl ?_); at_builtin; refine Kd.R_append k84 (w0 := w3) B rfl (.tmp 45) (.tmp 48) 57 84 (.agg #[(.int .i64 0), (.int .i64 0), (.int .i64 0), (.string ⟨#[]⟩)]) 40 rfl Try.underlying57 info84 rfl (by decide) (by decide) (.slice A1 L.length c1) L (fldT 6 s) [.int .i64 6, .int .i64 1, .int .i64 0, .string s] (fun _ => True) (fun _ => False) rfl ?aX (k84_mkM _ _ _ (fldT 6 s)) (fun _ hk => hk.elim) (fun _ _ => trivial) ?aO ?aB ?aS ?aL ?_; (case aX => rfl); (case aO => exact rowK HU.out); (case aB => exact (inferInstance : Bel B w3 _).out hB3); (case aS => first | (rw [World.size_alloc]; omega) | omega); (case aL => omega); intro v1 w6 h6 hb6 hg6 hat6; obtain ⟨A6, c6, rfl⟩ := Kd.R_slice h6; rw [List.length_append] at h6; have H6 := Aside0.mk h6; have HB6 := Aside0.mk hb6; clear h6 hb6 hg6 hat6)
        go_roundw
        case rel => exact ⟨j + 1, L ++ [fldT 6 s], by omega, by go_num, HI', by simp; omega, H6, HB6⟩
        case measure => simp [intOf]; omega
      · rw [if_neg hx] at hI
        obtain ⟨s, z, hs⟩ : ∃ s z, recS x = (s, z) := ⟨_, _, rfl⟩
        rw [hs] at hx hI hr
        simp only at hx hI
        obtain ⟨rfl, rfl⟩ := Prod.mk.inj hI
        have hzb : (z == 0) = false := beq_eq_false_iff_ne.mpr hx
        have HRC := Aside0.mk hr
        clear hI HI hr hs hx
        go_wp2_with (first
          | (refine seg_load rfl 81 (.tmp 35) rfl HX.out (A81 x) rfl rfl hu81 rfl (by rw [L81_len]; exact info81) ?_)
          | (refine box_store rfl rfl 81 (.tmp 7) (.tmp 36) rfl held (A81 x) rfl rfl (by rw [A81_size]; exact info81) (by rw [A81_size]; rfl) (A81_one x) ?_
             intro w4 hx4 hg4
             have p4 := prev_row hg4
             have h4 : Holds w4 wr.heap.size (.cells (A81 x) 81) := ⟨hx4⟩
             have a4 : Apart w.heap.size (.row wr.heap.size) := apart_ne (by have := HB.out; omega)
             have o4 : OwnB w.heap.size (.row wr.heap.size) := own_row (by have := HB.out; omega)
             have ob4 : OwnB B (.row wr.heap.size) := own_row (by omega)
             have n4 : NoRow (84 :: k84.E) (wr.alloc (.cells Z81 81)) (.row wr.heap.size) := noRow_row held (by decide)
             have s4 := hg4.size
             simp only [World.size_alloc] at s4
             clear hx4 hg4)
          | (refine box_load rfl 81 (.tmp 7) rfl held rfl hu81 rfl (by rw [A81_size]; exact info81) ?_))
        refine (HRC.out _).mono ?_
        rintro e w5 ⟨rfl, hb⟩
        have p5 := prev_call hb
        have s5 := hb.size
        clear hb
        go_wp2_with fail
        go_ret2
        exact ⟨rfl, bel _ _⟩
    · have hI := HI.out
      rw [List.drop_of_length_le (by omega)] at hI
      have HI' := Aside0.mk hI
      clear hI HI
      go_wp2_with fail
      refine (encode_c HU.out (by omega) _ _ HI'.out).mono ?_
      rintro e w5 ⟨rfl, hb⟩
      have p5 := prev_call hb
      clear hb
      go_wp2_with fail
      go_ret2
      exact ⟨rfl, bel _ _⟩
theorem answer_any (w : World) (a : S42) (A : Option Addr) (c : Nat) (hr : k81.C w A a.f5.length a.f5) :
    Calls Try.prog 17 #[ansV a A c] w fun e w' => e = .returned (.tuple #[.string (ansS a).1, .int .i64 (ansS a).2]) ∧ Below w.heap.size w w' := by
  unfold ansS
  cases h : ansOk a
  · exact answer_no w a A c hr h
  · exact answer_yes w a A c hr h _ _ rfl
end Go.Proofs.Ytjaneipklpgnlaa.Q

namespace Go.Proofs.YtjaneipklpgnlaaK
open Go Go.RowKit Go.Proofs.YtjaneipklpgnlaaW.PrintWords
/-! 'copy(x[i:], s)' of a string that may be too long. -/
theorem run_copy_min {P : Program} (w : World) (dT sT ty elem : TypeId) (g o dLen dCap : Nat) (s : ByteArray) (cur : Array Value) (t : TypeId)
    (hu : P.underlying dT = some (.slice elem)) (hs : (P.info? elem).map (·.size) = some 1) (hg : w.heap[g]? = some (.cells cur t (0, 0))) (hfit : o + min s.size dLen ≤ cur.size) :
    (Builtin.copy_ #[dT, sT] ty #[.slice (some ⟨g, o, none⟩) dLen dCap, .string s]).run P w =
      .ok (goInt (min s.size dLen)) (w.setRow g (cur.toList.take o ++ Lib.byteCells (s.data.toList.take (min s.size dLen)) ++ cur.toList.drop (o + min s.size dLen)).toArray) := by
  have hlen : (Lib.byteCells (s.data.toList.take (min s.size dLen))).length = min s.size dLen := by
    rw [Lib.byteCells_length, List.length_take]
    have : s.data.toList.length = s.size := by simp
    omega
  have hst := run_storeCells_at P g o t (Lib.byteCells (s.data.toList.take (min s.size dLen))) 0 cur w hg (by rw [hlen]; simpa using hfit) (Lib.byteCells_one _)
  have htk : List.take (min s.size dLen) (List.map (fun b : UInt8 => Value.int IntKind.u8 (b.toNat : Int)) s.data.toList) = Lib.byteCells (s.data.toList.take (min s.size dLen)) := by
    rw [← List.map_take]
    rfl
  rw [hlen] at hst
  simp only [Nat.add_zero] at hst
  cases hq : P.info? elem with
  | none => simp [hq] at hs
  | some i =>
    have hm : Nat.min s.size dLen = min s.size dLen := rfl
    simp [Builtin.copy_, run_underlying hu, Builtin.lenOf, Builtin.firstCells, sizeOf, typeInfo, hq, hm]
    rw [htk, hst]
    simp [Result.andThen]
    try (congr 1; omega)
/-- A struct laid cell by cell into a new row is the struct. -/
theorem laid_list : ∀ (l : List Value) (k : Nat) (acc : Array Value), acc.size = k + l.length → (l.zipIdx k).foldl (fun cs x => cs.setIfInBounds x.2 x.1) acc = (acc.toList.take k ++ l).toArray
  | [], k, acc, h => by
    simp only [List.zipIdx_nil, List.foldl_nil, List.append_nil]
    rw [List.take_of_length_le (by simp at h ⊢; omega)]
  | v :: l, k, acc, h => by
    simp only [List.zipIdx_cons, List.foldl_cons]
    simp only [List.length_cons] at h
    rw [laid_list l (k + 1) _ (by simp; omega)]
    congr 1
    have hk : k < acc.toList.length := by simp; omega
    rw [Array.toList_setIfInBounds, List.take_succ_eq_append_getElem (by simpa using hk), List.take_set_of_le (Nat.le_refl k), List.getElem_set_self]
    simp
theorem laid_row (zs cs : Array Value) (n : Nat) (h : zs.size = n) (hn : cs.size = n) : Array.foldl (fun cs x => cs.setIfInBounds x.2 x.1) zs cs.zipIdx 0 n = cs := by
  have h1 := laid_list cs.toList 0 zs (by simp; omega)
  have h2 : cs.zipIdx.size = n := by simp [hn]
  have h3 := Array.foldl_toList (fun (cs : Array Value) (x : Value × Nat) => cs.setIfInBounds x.2 x.1) (init := zs) (xs := cs.zipIdx)
  rw [← h2]
  rw [← h3, Array.toList_zipIdx, h1]
  simp
section
variable {P : Program} {ops : Array Oper} {oi : Oper} {a : Act} {w : World} {Q : Exit → Act → World → Prop} {K : Act → World → Prop}
theorem copy_step {N : Option Tmp} (d x : Operand) (dT sT elem : TypeId) (hw : Region.wanted oi (yielded ops a.tmps) = true) (hN : oi.dst = N) (hop : oi.op = .call { callee := .builtin .copy, args := #[d, x], argTypes := #[dT, sT] })
    {g o dLen dCap : Nat} {s : ByteArray} {cur : Array Value} {t : TypeId} (hg : w.heap[g]? = some (.cells cur t (0, 0))) (hd : a.eval d = .slice (some ⟨g, o, none⟩) dLen dCap) (hx : a.eval x = .string s)
    (hu : P.underlying dT = some (.slice elem)) (hs : (P.info? elem).map (·.size) = some 1) (hfit : o + min s.size dLen ≤ cur.size)
    (h : ∀ w1, w1.heap[g]? = some (.cells (cur.toList.take o ++ Lib.byteCells (s.data.toList.take (min s.size dLen)) ++ cur.toList.drop (o + min s.size dLen)).toArray t (0, 0)) → w.grownBy w1 (some g) → K (a.put N (goInt (min s.size dLen))) w1) :
    if Region.wanted oi (yielded ops a.tmps) = true then Oper.wp P oi a w K Q else K (a.put N undef) w := by
  rw [if_pos hw]
  subst hN
  have hrun := run_copy_min (P := P) w dT sT oi.type elem g o dLen dCap s cur t hu hs hg hfit
  have hr : (execOp a.eval oi).run P w = .ok (.value (goInt (min s.size dLen))) (w.setRow g (cur.toList.take o ++ Lib.byteCells (s.data.toList.take (min s.size dLen)) ++ cur.toList.drop (o + min s.size dLen)).toArray) := by
    unfold execOp
    simp only [hop]
    simp [resolve, invoke, builtin, hd, hx, hrun, Result.andThen]
  unfold Oper.wp
  rw [hr]
  exact h _ (setRow_heap w g cur _ t (0, 0) hg) (grown_setRow w g _)
end
end Go.Proofs.YtjaneipklpgnlaaK

namespace Go.Proofs.Ytjaneipklpgnlaa.Q
open Go Go.RowKit Go.Proofs.YtjaneipklpgnlaaK Go.Proofs.YtjaneipklpgnlaaW.PrintWords Go.Proofs.YtjaneipklpgnlaaW.PrintLast Go.Proofs.YtjaneipklpgnlaaW.PrintMore
set_option linter.unusedSimpArgs false
set_option linter.unusedVariables false
/-! ### A change off its bytes -/
def sumOf (t : ByteArray) : Sum := ⟨(t.data.toList ++ List.replicate 32 0).take 32, by rw [List.length_take]; simp⟩
def unrL (L : List S84) : S81 := ⟨getN L 1, getT L 2, getN L 3 == 1, getN L 4, sumOf (getT L 5)⟩
def unrS (s : ByteArray) : S81 := unrL (decS s).1
theorem num_c {W : World} {base : Nat} {v : Value} {L : List S84} (hv : Kd.R k84 84 W base (fun _ => True) v L) (hl : L.length ≤ 1048576) (t : Int) :
    Calls Try.prog 34 #[v, .int .i64 t] W fun e w' => e = .returned (.int .i64 (getN L t)) ∧ Below W.heap.size W w' := by
  obtain ⟨A3, k3, he3, hk3, hc3⟩ := Kd.R_reads hv
  subst he3
  exact talk_reader_num.calls A3 k3 L t _ W hc3 hk3 (rnum_fn L hl t)
theorem text_c {W : World} {base : Nat} {v : Value} {L : List S84} (hv : Kd.R k84 84 W base (fun _ => True) v L) (hl : L.length ≤ 1048576) (t : Int) :
    Calls Try.prog 35 #[v, .int .i64 t] W fun e w' => e = .returned (.string (getT L t)) ∧ Below W.heap.size W w' := by
  obtain ⟨A3, k3, he3, hk3, hc3⟩ := Kd.R_reads hv
  subst he3
  exact talk_reader_text.calls A3 k3 L t _ W hc3 hk3 (rtext_fn L hl t)
/-- What a copy into the sum leaves. -/
theorem copied (c : S81) (hc : c.f4 = sum0) (t : ByteArray) : ((A81 c).toList.take 4 ++ Lib.byteCells (t.data.toList.take (min t.size 32)) ++ (A81 c).toList.drop (4 + min t.size 32)).toArray = A81 ⟨c.f0, c.f1, c.f2, c.f3, sumOf t⟩ := by
  obtain ⟨c0, c1, c2, c3, c4⟩ := c
  simp only at hc
  subst hc
  have hl : t.data.toList.length = t.size := by simp
  simp only [A81, L81]
  congr 1
  have h1 : sumL (sumOf t) = Lib.byteCells (t.data.toList.take (min t.size 32)) ++ (sumL sum0).drop (min t.size 32) := by
    apply List.ext_getElem?
    intro i
    simp only [sumL, sumOf, sum0, Lib.byteCells, List.getElem?_map, List.getElem?_append, List.getElem?_take, List.getElem?_drop, List.getElem?_replicate, List.length_map, List.length_take, hl]
    by_cases h32 : i < 32
    · by_cases hi : i < t.size
      · have e0 : i < min t.size 32 := by omega
        simp [h32, hi, e0]
      · have e1 : ¬ i < min t.size 32 := by omega
        have e2 : min t.size 32 + (i - min t.size 32) < 32 := by omega
        have e3 : i - t.size < 32 := by omega
        simp [h32, hi, e1, e2, e3]
    · have e1 : ¬ i < min t.size 32 := by omega
      have e2 : ¬ min t.size 32 + (i - min t.size 32) < 32 := by omega
      simp [h32, e1, e2]
  rw [h1]
  have hd : ∀ (a b c d : Value) (l : List Value) (k : Nat), (a :: b :: c :: d :: l).drop (4 + k) = l.drop k := by
    intro a b c d l k
    rw [Nat.add_comm]
    rfl
  rw [hd]
  rfl
attribute [local go_sem] A81_size A81_0 A81_1 A81_2 A81_3 A81_g0 A81_g1 A81_g2 A81_g3 cell_held frozen_held
set_option maxRecDepth 100000 in
set_option maxHeartbeats 4000000 in
theorem unr_any (w : World) (s : ByteArray) : Calls Try.prog 47 #[.string s] w fun e w' => e = .returned (.agg (A81 (unrS s))) ∧ Below w.heap.size w w' := by
  have hu81 := Try.underlying81
  obtain ⟨L, q, hd⟩ : ∃ L q, decS s = (L, q) := ⟨_, _, rfl⟩
  have hl : L.length ≤ 1048576 := by have := dec_len s; rw [hd] at this; exact this
  have hr : unrS s = unrL L := by unfold unrS; rw [hd]
  rw [hr]
  have hc := fun W => field_Decode.calls s L q W (by rw [dec_fn, hd])
  have HC := Aside0.mk hc
  clear hr hd hc
  go_enter Try.func47, Try.ntmps47
  go_wp2_with ((with_reducible refine gate_dst (N := 2) rfl ?_); refine new_event rfl (N := 2) rfl (ob := .cells Z81 81) (by go_simp; rfl) ?_; intro w0 p0 h0)
  refine (HC.out _).mono ?_
  rintro e w1 ⟨v, rfl, hv, hb⟩
  have p1 := prev_call hb
  have HV := Aside0.mk hv
  clear hb hv
  go_wp2_with fail
  refine (num_c (rowK HV.out) hl 1).mono ?_
  rintro e w2 ⟨rfl, hb⟩
  have p2 := prev_call hb
  clear hb
  go_wp2_with fail
  refine (text_c (rowK HV.out) hl 2).mono ?_
  rintro e w3 ⟨rfl, hb⟩
  have p3 := prev_call hb
  clear hb
  go_wp2_with fail
  refine (num_c (rowK HV.out) hl 3).mono ?_
  rintro e w4 ⟨rfl, hb⟩
  have p4 := prev_call hb
  clear hb
  go_wp2_with fail
  refine (num_c (rowK HV.out) hl 4).mono ?_
  rintro e w5 ⟨rfl, hb⟩
  have p5 := prev_call hb
  clear hb
  go_wp2_with (first
    | ((with_reducible refine gate_dst (N := 6) rfl ?_); refine new_event rfl (N := 6) rfl (ob := .cells Z81 81) (by go_simp; rfl) ?_; intro w6 p6 h6)
    | (refine box_store rfl rfl 81 (.tmp 6) (.tmp 22) rfl held (A81 ⟨getN L 1, getT L 2, getN L 3 == 1, getN L 4, sum0⟩) rfl rfl (by rw [A81_size]; exact info81) (by rw [A81_size]; rfl) (A81_one _) ?_
       intro w7 hx7 hg7
       have p7 := prev_row hg7
       have h7 : Holds w7 w5.heap.size (.cells (A81 ⟨getN L 1, getT L 2, getN L 3 == 1, getN L 4, sum0⟩) 81) := ⟨hx7⟩
       clear hx7 hg7))
  have hne := held_lt (W := w5) (g := w.heap.size)
  have a6 : Apart w.heap.size (.row w5.heap.size) := apart_ne (by omega)
  have n6 : NoRow (84 :: k84.E) w6 (.row w5.heap.size) := noRow_row held (by decide)
  have o6 : OwnB w.heap.size (.row w5.heap.size) := own_row (by omega)
  go_region_law (first
    | (refine goes_ Try.func35 (by kernel_rfl) rfl #[v, .int .i64 5] (by rfl) rfl rfl (by simp [Act.eval, Act.put]) ?_
       refine (text_c (rowK HV.out) hl 5).mono ?_
       rintro e w8 ⟨rfl, hb⟩
       have p8 := prev_call hb
       clear hb
       refine ⟨_, rfl, ?_⟩)
    | (refine copy_step (.tmp 24) (.tmp 26) 38 9 5 (by rfl) rfl rfl (g := w5.heap.size) (o := 4) (dLen := 32) (dCap := 32) (s := getT L 5) held (by simp [Act.eval, Act.put]) (by simp [Act.eval, Act.put]) Try.underlying38 (by kernel_rfl) (by rw [A81_size]; omega) ?_
       intro w9 hx9 hg9
       rw [copied _ rfl] at hx9
       have p9 := prev_row hg9
       have h9 : Holds w9 w5.heap.size _ := ⟨hx9⟩
       clear hx9 hg9))
  all_goals
    go_wp2_with (first
      | (refine box_load rfl 81 (.tmp 6) rfl held rfl hu81 rfl (by rw [A81_size]; exact info81) ?_)
      | (refine box_store rfl rfl 81 (.tmp 2) (.tmp 28) rfl held (A81 (unrL L)) rfl rfl (by rw [A81_size]; exact info81) (by rw [A81_size]; rfl) (A81_one _) ?_
         intro wz hxz hgz
         have pz := prev_row hgz
         have HZ := Aside0.mk hxz
         clear hxz hgz))
    refine bodyPost_ret (results_cell_row rfl _ _ w.heap.size 81 (A81 (unrL L)) (0, 0) _ rfl HZ.out hu81 rfl (by rw [A81_size]; exact info81)) rfl ?_
    exact ⟨rfl, bel _ _⟩
end Go.Proofs.Ytjaneipklpgnlaa.Q
