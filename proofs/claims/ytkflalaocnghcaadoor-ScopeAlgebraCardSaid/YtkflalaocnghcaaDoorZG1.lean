/- Parts of the proof: K0, K1, K2, Q0, OpenQ, PP, PK, HCut, HSplit, HLib, K3, K6, HKind, HBelow, K7, K8, K9, KA, HCmp, PO, PScope, K4, KS, HRed, HHas, Q3, Q8, Q6, Q23. -/
import Derived.WalkKit
import Derived.Test.YtkflalaocnghcaaDoorWWords
import Derived.Test.YtkflalaocnghcaaDoorWMore
import Derived.Deep.Slices
import Derived.ChangeArms
import Derived.SizedLaws
import Derived.Test.YtkflalaocnghcaaDoorProg
import Derived.Below
import Derived.Deep.Draws
import Derived.Deep.AppendLies
import Derived.Maps.AppendAt
import Derived.OwnWalk
import Derived.Laws.BytesArg
import Derived.Laws.MakeOwn
import Derived.Laws.OwnMore
import Derived.Deep.OwnRows
import Derived.Tactics
import Derived.Lib.ConvBytes
import Derived.Laws.Slices
import Derived.KernelRfl
import Derived.RowKit3
import Derived.Deep.LoopGhost
import Derived.Deep.QuietTactic
import Derived.BigQuiet
import Derived.WideLaws
import Derived.Deep.DeepCutAuto
import Derived.Deep.CutBlock
import Derived.Deep.RegionHeld3
import Derived.Laws.Rows
import Derived.Lib.AppendStr
import Derived.ArgAppend
import Derived.Laws.IdiomCopy
import Derived.OrdersHeld
import Derived.Laws.BitsLemmas
import Derived.RowKit
import Derived.Test.YtkflalaocnghcaaDoorWLast
import Derived.Test.YtkflalaocnghcaaDoorWTab
import Derived.Test.YtkflalaocnghcaaDoorWQPut
import Derived.Test.YtkflalaocnghcaaDoorWApart
import Derived.Test.YtkflalaocnghcaaDoorWArr
import Derived.Test.YtkflalaocnghcaaDoorWZeros
import Derived.Test.YtkflalaocnghcaaDoorWFoot
import Derived.Test.YtkflalaocnghcaaDoorWKept
import Derived.Test.YtkflalaocnghcaaDoorWShare
import Derived.Test.YtkflalaocnghcaaDoorWN
import Derived.Test.YtkflalaocnghcaaDoorWFootNe
import Derived.Test.YtkflalaocnghcaaDoorWRepsOne
import Derived.Test.YtkflalaocnghcaaDoorWInv
import Derived.Test.YtkflalaocnghcaaDoorWInvWords
import Derived.Test.YtkflalaocnghcaaDoorWGuard
import Derived.Test.YtkflalaocnghcaaDoorWNEv
import Derived.Lib.SplitLaws
import Derived.Lib.Bytealg
import Derived.Lib.IndexBytes
import Derived.Lib.IndexMore
import Derived.Shelf.Strings.Cut
import Derived.IntWalk
import Derived.Shelf.Strings.Split
import Derived.Shelf.Small.Strs
import Derived.Shelf.Strings.Search1
import Derived.Shelf.Strings.LastIndex
import Derived.Shelf.Strings.BuilderK
import Derived.Shelf.SlicesG.Cmp
import Derived.Shelf.SlSortCmp.Whole1
import Derived.Shelf.SlicesG.Clone
import Derived.Sort.Grow
import Derived.RangeFuncNested
import Derived.RangeFuncBound
import Derived.RangeFuncCalls
import Derived.RangeFuncLeaves
import Derived.Shelf.Abstract
import Derived.Shelf.RegionOpen
import Derived.OwnWalkIn
import Derived.TacticsInMore
import Derived.LoopNIn
import Derived.LoopIn
import Derived.OpenShut
import Derived.ChangeKeysEq
import Derived.Laws.IdiomStrings
import Derived.Lib.BufferWrite
import Derived.Laws.CopyRow
import Derived.Shelf.SlSortCmp.WholeK
import Derived.Shelf.SlSortCmp.NoneTotal
namespace Go.Proofs.YtkflalaocnghcaaDoorK
open Go
theorem isSome_set (c : Array Value) (i j : Nat) (v : Value) : (c.setIfInBounds i v)[j]?.isSome = c[j]?.isSome := by
  rw [Array.getElem?_setIfInBounds]
  split
  · rename_i h
    subst h
    by_cases h2 : i < c.size
    · simp [h2]
    · rw [if_neg h2, Array.getElem?_eq_none (by omega)]
  · rfl
theorem isSome_setCell (w : World) (a b : Addr) (v : Value) : ((w.setCell a v).cell? b).isSome = (w.cell? b).isSome := by
  simp only [World.setCell, World.cell?, Array.getElem?_modify]
  by_cases hb : a.block = b.block
  · simp only [hb, if_true]
    cases hh : w.heap[b.block]? with
    | none => simp
    | some x =>
      cases x <;> simp
      split
      · rfl
      · split
        · rfl
        · exact isSome_set _ _ _ _
  · simp only [if_neg hb]
end Go.Proofs.YtkflalaocnghcaaDoorK

namespace Go.Proofs.YtkflalaocnghcaaDoorK
open Go Go.RowKit Go.Proofs.YtkflalaocnghcaaDoorW.PrintWords
section
variable {P : Program} {ops : Array Oper} {rest : List Oper} {o : Oper} {a : Act} {Q : Exit → Act → World → Prop} {Kc : Act → World → Prop}

theorem run_append_string_at (W : World) (base : Nat) (t u ty e : TypeId) (i : TypeInfo) (ht : P.underlying t = some (.slice e)) (hu : P.underlying u = some .string) (hi : P.info? e = some i) (hz : i.zero = some (.int .u8 0)) (hsize : i.size = 1) (hby : i.bytes = 1)
    (v : Value) (n : Nat) (xs : List Value) (hown : W.ownsRow base e 1 v n xs) (s : ByteArray) (hb : n + s.size ≤ 140737488355328) (hbase : base ≤ W.heap.size) :
    ∃ v1 w1, (Builtin.append_ #[t, u] ty #[v, .string s]).run P W = .ok v1 w1 ∧ w1.ownsRow base e 1 v1 (n + s.size) (xs ++ Lib.strCells s) ∧ W.grownBy w1 v.ownBlock ∧ (v1.ownBlock = v.ownBlock ∨ ∃ b, v1.ownBlock = some b ∧ W.heap.size ≤ b) := by
  have h63 : n + s.size ≤ maxLen := by simp only [maxLen]; omega
  obtain ⟨v1, w1, hr, h2, h3, h4⟩ := Lib.run_append_own_string (P := P) W base t u ty e i ht hu hi hz hsize hby v n xs hown s h63 hb hbase
  refine ⟨v1, w1, hr, h2, h3, ?_⟩
  rcases hown.2 with ⟨rfl, h0⟩ | ⟨g, cap, cur, rfl, hbg, hg, hnc, hcm, hcs, htake⟩
  · by_cases hm : s.size = 0
    · exact .inl (by rw [h4.2 ⟨rfl, hm⟩])
    · have hr' := run_append_nil_string (P := P) W t u ty e i (.int .u8 0) ht hu hi hz s (by omega) (by omega) (by rw [hby]; omega)
      have hj := hr.symm.trans hr'
      injection hj with hv _
      exact .inr ⟨W.heap.size, by rw [hv]; rfl, Nat.le_refl _⟩
  · by_cases hroom : n + s.size ≤ cap
    · have hcs' : cur.size = cap := by simpa using hcs
      have hr' := Lib.run_append_room_string (P := P) W t u ty e i ht hu hi hsize g n cap cur hg s hroom (by omega)
      have hj := hr.symm.trans hr'
      injection hj with hv _
      exact .inl (by rw [hv]; rfl)
    · have holds : ∀ j x, xs[j]? = some x → W.cell? ((⟨g, 0, none⟩ : Addr).add j) = some x := hown.cells (g := g) rfl
      have hxl : xs.length = n := by simpa using hown.1
      have hr' := Lib.run_append_grow_string (P := P) W t u ty e i (.int .u8 0) ht hu hi hz ⟨g, 0, none⟩ n cap xs (by rw [hsize]; simpa using hxl) holds s (by omega) (by omega) (by rw [hby]; exact growslice_fits (by omega) (by omega))
      have hj := hr.symm.trans hr'
      injection hj with hv _
      exact .inr ⟨W.heap.size, by rw [hv]; rfl, Nat.le_refl _⟩

theorem R_of_string {W w1 : World} {base : Nat} {e : TypeId} {ok : Nat → Prop} {v v1 : Value} {xs : List Int} {y : ByteArray} (h0 : ∀ k, v.ownBlock = some k → ok k) (hfresh : ∀ k, W.heap.size ≤ k → ok k)
    (h2 : w1.ownsRow base e 1 v1 (xs.length + y.size) (nums .u8 xs ++ Lib.strCells y)) (hat : v1.ownBlock = v.ownBlock ∨ ∃ b, v1.ownBlock = some b ∧ W.heap.size ≤ b) :
    (Kd.int .u8).R e w1 base ok v1 (xs ++ bytesOf y) := by
  have hl2 : (xs ++ bytesOf y).length = xs.length + y.size := by rw [List.length_append, bytesOf_length]
  have hc : nums .u8 (xs ++ bytesOf y) = nums .u8 xs ++ Lib.strCells y := by
    rw [nums_append]
    congr 1
    simp [nums, bytesOf, Lib.strCells]
  refine Kd.R_of_own (h1 := fun _ => rfl) ?_ ?_
  · rw [hl2]
    have : encs (Value.int .u8) (xs ++ bytesOf y) = nums .u8 (xs ++ bytesOf y) := rfl
    rw [this, hc]
    exact h2
  · intro k hk
    rcases hat with hat | ⟨b, hb, hle⟩
    · exact h0 k (hat ▸ hk)
    · rw [hb] at hk
      injection hk with hk
      exact hfresh k (by omega)

theorem R_append_str {w0 W : World} (base : Nat) (hgd : o.guard = none) (s x : Operand) (t u e : TypeId)
    (ho : o.op = .call { callee := .builtin .append, args := #[s, x], argTypes := #[t, u] })
    (ht : P.underlying t = some (.slice e)) (hu : P.underlying u = some .string) (hinfo : (P.info? e).map (fun i => (i.zero, i.size, i.bytes)) = some (some (.int .u8 0), 1, 1))
    (v : Value) (xs : List Int) (y : ByteArray) (ok : Nat → Prop) (hs : a.eval s = v) (hx : a.eval x = .string y) (hfresh : ∀ k, W.heap.size ≤ k → ok k)
    (HO : (Kd.int .u8).R e W base ok v xs) (HB : Below base w0 W) (hbase : base ≤ W.heap.size) (hl : xs.length + y.size ≤ 140737488355328)
    (h : ∀ v1 w1, (Kd.int .u8).R e w1 base ok v1 (xs ++ bytesOf y) → Below base w0 w1 → W.grownBy w1 v.ownBlock → (v1.ownBlock = v.ownBlock ∨ ∃ b, v1.ownBlock = some b ∧ W.heap.size ≤ b) → wpList P ops Q rest (a.put o.dst v1) w1) :
    wpList P ops Q (o :: rest) a W := by
  obtain ⟨i0, hi, hzz⟩ := Option.map_eq_some_iff.1 hinfo
  simp only [Prod.mk.injEq] at hzz
  obtain ⟨hz0, hz1, hz2⟩ := hzz
  have hown := Kd.own_of_R HO
  refine wpList_plain hgd fun K hK => ?_
  obtain ⟨v1, w1, hr, h2, h3, hat⟩ := run_append_string_at (P := P) W base t u o.type e i0 ht hu hi hz0 hz1 hz2 v xs.length (encs (Value.int .u8) xs) hown y hl hbase
  unfold Oper.wp execOp
  simp only [ho, resolve, invoke, builtin, Sem.run_bind, Sem.run_pure, Result.andThen_ok, List.map_toArray, List.map_cons, List.map_nil, hs, hx, hr]
  exact hK _ _ (h v1 w1 (R_of_string HO.1 hfresh h2 hat) (HB.grown h3 hbase (own_base hown)) h3 hat)

theorem R_append_str_step {w0 W : World} (base : Nat) (hw : Region.wanted o (yielded ops a.tmps) = true) (s x : Operand) (t u e : TypeId)
    (ho : o.op = .call { callee := .builtin .append, args := #[s, x], argTypes := #[t, u] })
    (ht : P.underlying t = some (.slice e)) (hu : P.underlying u = some .string) (hinfo : (P.info? e).map (fun i => (i.zero, i.size, i.bytes)) = some (some (.int .u8 0), 1, 1))
    (v : Value) (xs : List Int) (y : ByteArray) (ok : Nat → Prop) (hs : a.eval s = v) (hx : a.eval x = .string y) (hfresh : ∀ k, W.heap.size ≤ k → ok k)
    (HO : (Kd.int .u8).R e W base ok v xs) (HB : Below base w0 W) (hbase : base ≤ W.heap.size) (hl : xs.length + y.size ≤ 140737488355328)
    (h : ∀ v1 w1, (Kd.int .u8).R e w1 base ok v1 (xs ++ bytesOf y) → Below base w0 w1 → W.grownBy w1 v.ownBlock → (v1.ownBlock = v.ownBlock ∨ ∃ b, v1.ownBlock = some b ∧ W.heap.size ≤ b) → Kc (a.put o.dst v1) w1) :
    if Region.wanted o (yielded ops a.tmps) = true then Oper.wp P o a W Kc Q else Kc (a.put o.dst undef) W := by
  obtain ⟨i0, hi, hzz⟩ := Option.map_eq_some_iff.1 hinfo
  simp only [Prod.mk.injEq] at hzz
  obtain ⟨hz0, hz1, hz2⟩ := hzz
  have hown := Kd.own_of_R HO
  rw [if_pos hw]
  obtain ⟨v1, w1, hr, h2, h3, hat⟩ := run_append_string_at (P := P) W base t u o.type e i0 ht hu hi hz0 hz1 hz2 v xs.length (encs (Value.int .u8) xs) hown y hl hbase
  unfold Oper.wp execOp
  simp only [ho, resolve, invoke, builtin, Sem.run_bind, Sem.run_pure, Result.andThen_ok, List.map_toArray, List.map_cons, List.map_nil, hs, hx, hr]
  exact h v1 w1 (R_of_string HO.1 hfresh h2 hat) (HB.grown h3 hbase (own_base hown)) h3 hat
end
end Go.Proofs.YtkflalaocnghcaaDoorK

namespace Go.Proofs.YtkflalaocnghcaaDoorK
open Go Go.RowKit Go.ChangeShapes Go.WideShapes Go.Deep Go.Proofs.YtkflalaocnghcaaDoorW.PrintWords
/-! What comes in, as a kind tells it: by the type's shape. -/
def Opens (P : Program) (t : TypeId) {α : Type} (d : Kd α) (good : α → Prop) : Prop :=
  ∀ (H : Type) (enc : TypeId × Value → H) (w : World) (base : Nat) (spare : Nat → Bool) (held : Bool) (fuel : Nat) (cs : List Value) (x : DataW H × List MemPlace), DataW.trod enc P w base spare held fuel t cs = some x → ∃ a, d.K w a cs ∧ good a
theorem pick_list {α : Type} {p : Nat → α → Prop} (n : Nat) (h : ∀ i, i < n → ∃ a, p i a) : ∃ l : List α, l.length = n ∧ ∀ i a, l[i]? = some a → p i a := by
  induction n with
  | zero => exact ⟨[], rfl, by simp⟩
  | succ n ih =>
    obtain ⟨l, hll, hlp⟩ := ih (fun i hi => h i (by omega))
    obtain ⟨a, ha⟩ := h n (by omega)
    refine ⟨l ++ [a], by simp [hll], fun i q hq => ?_⟩
    rcases Nat.lt_or_ge i n with hi | hi
    · rw [List.getElem?_append_left (by omega)] at hq
      exact hlp i q hq
    · rw [List.getElem?_append_right (by omega)] at hq
      have hi2 : i = n := by
        have h1 := (List.getElem?_eq_some_iff.1 hq).1
        simp at h1
        omega
      subst hi2
      rw [hll] at hq
      simp at hq
      subst hq
      exact ha
section
variable {P : Program} {t e : TypeId} {α β γ : Type}
theorem opens_int {k : IntKind} (ht : P.underlying t = some (.int k)) : Opens P t (Kd.int k) (fun n => (Lit.int k n).wf = true) := by
  intro H enc w base spare held fuel cs x h
  obtain ⟨n, rfl, _, hw⟩ := DataW.trod_int ht h
  exact ⟨n, rfl, hw⟩
theorem opens_bool (ht : P.underlying t = some .bool) : Opens P t Kd.bool (fun _ => True) := by
  intro H enc w base spare held fuel cs x h
  obtain ⟨b, rfl, _⟩ := DataW.trod_bool ht h
  exact ⟨b, rfl, trivial⟩
theorem opens_string (ht : P.underlying t = some .string) : Opens P t Kd.string (fun s => s.size ≤ 9223372036854775807) := by
  intro H enc w base spare held fuel cs x h
  obtain ⟨s, rfl, _, hs⟩ := DataW.trod_string ht h
  exact ⟨s, rfl, by unfold maxLen at hs; exact hs⟩
theorem opens_slice {d : Kd α} {good : α → Prop} (ht : P.underlying t = some (.slice e)) (hs : P.cellsOf e = d.sz) (ho : Opens P e d good) : Opens P t (Kd.slice e d) (fun l => l.length ≤ 9223372036854775807 ∧ ∀ a ∈ l, good a) := by
  intro H enc w base spare held fuel cs x h
  rcases open_slice ht h with ⟨rfl, _⟩ | ⟨a, len, cap, m, n, D, Pl, rfl, _, hl, hm, hmm, _, hx⟩
  · exact ⟨[], ⟨none, 0, rfl, Nat.le_refl _, Kd.C_nil d w⟩, by simp, by simp⟩
  · have hlm : len ≤ m := by rw [hmm]; split <;> omega
    unfold maxLen at hm
    have key : ∀ i, i < len → ∃ p : α, (∃ c, c.length = d.sz ∧ d.K w p c ∧ ∀ j u, c[j]? = some u → w.cell? (a.add (i * d.sz + j)) = some u) ∧ good p := by
      intro i hi
      obtain ⟨c, hc, hd⟩ := hx i (by omega)
      obtain ⟨p, hK, hg⟩ := ho _ _ _ _ _ _ _ _ _ hd
      obtain ⟨_, hcl, hat⟩ := World.cells?_some hc
      refine ⟨p, ⟨c, by rw [hcl, hs], hK, fun j u hj => ?_⟩, hg⟩
      have hjl : j < c.length := (List.getElem?_eq_some_iff.1 hj).1
      have h1 := hat j (by omega)
      rw [Go.Deep.add_add, hs, hj] at h1
      exact h1
    obtain ⟨l, hll, hlp⟩ := pick_list len key
    refine ⟨l, ⟨some a, cap, by rw [hll], by omega, rfl, by omega, fun _ => ⟨a, rfl, fun j p hj => (hlp j p hj).1⟩⟩, by omega, fun p hp => ?_⟩
    obtain ⟨i, hi, rfl⟩ := List.getElem_of_mem hp
    exact (hlp i _ (List.getElem?_eq_getElem hi)).2
/-- Fields from an offset on. -/
def OpensAt (P : Program) (l : List Field) (o : Nat) {α : Type} (d : Kd α) (good : α → Prop) : Prop :=
  ∀ (H : Type) (enc : TypeId × Value → H) (w : World) (base : Nat) (spare : Nat → Bool) (held : Bool) (n : Nat) (cs : List Value), (∀ f ∈ l, ∃ x, DataW.trod enc P w base spare held n f.type ((cs.drop f.offset).take (P.cellsOf f.type)) = some x) → cs.length = o + d.sz → ∃ a, d.K w a (cs.drop o) ∧ good a
theorem opensAt_last {f : Field} {o : Nat} {d : Kd α} {good : α → Prop} (hoff : f.offset = o) (hsz : P.cellsOf f.type = d.sz) (ho : Opens P f.type d good) : OpensAt P [f] o d good := by
  intro H enc w base spare held n cs h hl
  obtain ⟨x, hx⟩ := h f List.mem_cons_self
  rw [hoff, hsz, List.take_of_length_le (by rw [List.length_drop]; omega)] at hx
  exact ho _ _ _ _ _ _ _ _ _ hx
theorem opensAt_cons {f : Field} {l : List Field} {o : Nat} {d1 : Kd α} {d2 : Kd β} {g1 : α → Prop} {g2 : β → Prop} (hoff : f.offset = o) (hsz : P.cellsOf f.type = d1.sz) (ho : Opens P f.type d1 g1) (hr : OpensAt P l (o + d1.sz) d2 g2) :
    OpensAt P (f :: l) o (Kd.pair d1 d2) (fun p => g1 p.1 ∧ g2 p.2) := by
  intro H enc w base spare held n cs h hl
  have hl' : cs.length = o + d1.sz + d2.sz := by rw [hl]; exact (Nat.add_assoc _ _ _).symm
  obtain ⟨x, hx⟩ := h f List.mem_cons_self
  rw [hoff, hsz] at hx
  obtain ⟨a, hK, hg⟩ := ho _ _ _ _ _ _ _ _ _ hx
  obtain ⟨b, hKb, hgb⟩ := hr H enc w base spare held n cs (fun f hf => h f (List.mem_cons_of_mem _ hf)) hl'
  refine ⟨(a, b), ⟨(cs.drop o).take d1.sz, cs.drop (o + d1.sz), ?_, hK, hKb⟩, hg, hgb⟩
  rw [← List.drop_drop, List.take_append_drop]
theorem opens_struct {fs : Array Field} {d : Kd α} {good : α → Prop} (ht : P.underlying t = some (.struct fs)) (hC : P.cellsOf t = d.sz) (hl : OpensAt P fs.toList 0 d good) (f : β → α) (g : α → β) (hfg : ∀ a, f (g a) = a) : Opens P t (Kd.iso d f) (fun b => good (f b)) := by
  intro H enc w base spare held fuel cs x h
  obtain ⟨xs, n, _, _, hlen, hxl, hf⟩ := DataW.trod_struct ht h
  obtain ⟨a, hK, hg⟩ := hl H enc w base spare held n cs (fun fl hfl => by
    obtain ⟨i, hi, rfl⟩ := List.getElem_of_mem hfl
    have hi' : i < fs.size := by simpa using hi
    have h1 := hf i fs[i] (Array.getElem?_eq_getElem hi')
    rw [List.getElem?_eq_getElem (by omega)] at h1
    exact ⟨_, by simpa using h1⟩) (by rw [hlen, hC, Nat.zero_add])
  exact ⟨g a, by show d.K w (f (g a)) cs; rw [hfg]; simpa using hK, by show good (f (g a)); rw [hfg]; exact hg⟩
/-- A row's slice is no longer than its weight allows, whatever its elements. -/
theorem sized_row {H : Type} {enc : TypeId × Value → H} {W : World} {base : Nat} {spare : Nat → Bool} {held : Bool} {a : Option Addr} {len cap : Nat} {d : DataW H} {ps : List MemPlace} {ts : List TypeId} {ds : List (DataW H)} {j : Nat}
    (hsz : (DataW.weightsEach P ts ds).all (· ≤ reachBytes) = true) (htj : ts[j]? = some t) (hd : ds[j]? = some d) (hu : P.underlying t = some (.slice e)) {B : Nat} (hB : P.bytesOf e = B)
    (h : DataW.Trod enc P W base spare held t (.slice a len cap) d ps) : len * B ≤ 140737488351232 := by
  obtain ⟨fuel, hf⟩ := h
  rcases open_slice hu hf with ⟨hcs, _⟩ | ⟨x, l, c, m, n, D, Pl, hcs, _, hl, _, hm, hx, _⟩
  · simp [Value.cells] at hcs
    obtain ⟨rfl, rfl, rfl⟩ := hcs
    simp
  · simp [Value.cells] at hcs
    obtain ⟨rfl, rfl, rfl⟩ := hcs
    obtain ⟨hx, _⟩ := Prod.mk.inj hx
    subst hx
    have z := sized_slice hsz htj hd hu
    rw [hB] at z
    have hl2 : len ≤ ((List.range len).map D).length + ((List.range (m - len)).map fun j => D (len + j)).length := by simp
    exact Nat.le_trans (Nat.mul_le_mul_right _ hl2) z
end
end Go.Proofs.YtkflalaocnghcaaDoorK

namespace Go.Proofs.YtkflalaocnghcaaDoor.Q
open Go.RowKit Go.Proofs.YtkflalaocnghcaaDoorW.PrintWords Go.Proofs.YtkflalaocnghcaaDoorW.PrintLast Go.Proofs.YtkflalaocnghcaaDoorW.PrintMore
attribute [local go_sem] max2_int min2_int max_two min_two max_three min_three max_four min_four   -- for this text's walks alone
attribute [local go_sem ↓] Go.Proofs.YtkflalaocnghcaaDoorK.isSome_setCell
set_option linter.unusedVariables false
set_option linter.unusedSimpArgs false



def errW : Option Int → Value
  | none => .nilIface
  | some c => .iface 0 (.int .i64 c)
theorem errW_none : errW none = .nilIface := rfl
theorem errW_some (c : Int) : errW (some c) = .iface 0 (.int .i64 c) := rfl

theorem info9 : (Tryd.prog.info? 9).map (fun i => (i.zero, i.size, i.bytes)) = some (some (.string ⟨#[]⟩), 1, 16) := by kernel_rfl
-- the values' own types
def rd_L3 (xs : List (List ByteArray)) (i : Int) : (List ByteArray) := xs.getD i.toNat ([] : List ByteArray)
theorem at_L3 {w : World} {A : Option Addr} {n : Nat} {xs : List (List ByteArray)} (h : Kd.C (Kd.slice 9 Kd.string) w A n xs) (i : Int) (h0 : 0 ≤ i) (h1 : i < n) : ∃ ad A0 c0, A = some ad ∧ w.cell? (ad.add i.toNat) = some (.slice A0 (rd_L3 xs i).length c0) ∧ (rd_L3 xs i).length ≤ c0 ∧ Kd.string.C w A0 (rd_L3 xs i).length (rd_L3 xs i) := by
  obtain ⟨ad, c, e, _, hK, hc0⟩ := Kd.C_get h ([] : List ByteArray) i h0 h1
  have hc : ∀ j u, c[j]? = some u → w.cell? (ad.add (i.toNat * 1 + j)) = some u := hc0
  obtain ⟨A0, c0, rfl, l0, g0⟩ := hK
  exact ⟨ad, A0, c0, e, by have hq := hc 0 _ rfl; rwa [Nat.mul_one, Nat.add_zero] at hq, l0, g0⟩

end Go.Proofs.YtkflalaocnghcaaDoor.Q

namespace Go.Proofs.YtkflalaocnghcaaDoor.Q
open Go Go.RowKit Go.Proofs.YtkflalaocnghcaaDoorK Go.Proofs.YtkflalaocnghcaaDoorW.PrintWords Go.Proofs.YtkflalaocnghcaaDoorW.PrintLast Go.Proofs.YtkflalaocnghcaaDoorW.PrintMore
end Go.Proofs.YtkflalaocnghcaaDoor.Q

namespace Go.Proofs.YtkflalaocnghcaaDoorP
open Go Go.Lib
/-! What a path is, parted at each /, and how two are compared. Plain: no program here. -/
/-- A text, parted at each byte 47. -/
def names : List UInt8 → List (List UInt8)
  | [] => [[]]
  | c :: l => if c = 47 then [] :: names l else match names l with
    | [] => [[c]]
    | n :: ns => (c :: n) :: ns
theorem names_ne (l : List UInt8) : names l ≠ [] := by
  cases l with
  | nil => simp [names]
  | cons c l =>
    unfold names
    split
    · simp
    · split <;> simp
theorem index_cons_eq (l : List UInt8) (c : UInt8) : index (c :: l) [c] = 0 := by
  unfold index
  simp [List.isPrefixOf]
theorem index_cons_ne (l : List UInt8) (b c : UInt8) (h : b ≠ c) : index (b :: l) [c] = if index l [c] == -1 then -1 else index l [c] + 1 := by
  rw [index]
  have h2 : ([c] : List UInt8).isPrefixOf (b :: l) = false := by simp [List.isPrefixOf, Ne.symm h]
  rw [h2]
  rfl
theorem index_ge (l : List UInt8) (c : UInt8) : -1 ≤ index l [c] := by
  induction l with
  | nil => simp [index]
  | cons b l ih =>
    by_cases h : b = c
    · subst h; rw [index_cons_eq]; omega
    · rw [index_cons_ne l b c h]
      split <;> omega
theorem index_none (l : List UInt8) (c : UInt8) : index l [c] = -1 ↔ count l [c] = 0 := by
  induction l with
  | nil => simp [index, count, countFrom]
  | cons b l ih =>
    have hg := index_ge l c
    by_cases h : b = c
    · subst h
      rw [index_cons_eq, count_cons_eq]
      omega
    · rw [index_cons_ne l b c h, count_cons_ne b c l h, ← ih]
      by_cases h2 : index l [c] = -1
      · simp [h2]
      · rw [if_neg (by simpa using h2)]
        omega
theorem split_names (l : List UInt8) : splitK [47] 0 (count l [47]) l = names l := by
  induction l with
  | nil => rfl
  | cons b l ih =>
    by_cases h : b = 47
    · subst h
      rw [count_cons_eq, Nat.add_comm, splitK, index_cons_eq, if_neg (by decide)]
      simp only [names, if_pos]
      simpa using ih
    · rw [count_cons_ne b 47 l h]
      simp only [names, if_neg h]
      rw [← ih]
      cases hk : count l [47] with
      | zero => simp [splitK]
      | succ k =>
        have hi : index l [47] ≠ -1 := fun e => by have := (index_none l 47).1 e; omega
        have hg := index_ge l 47
        obtain ⟨i, hii⟩ : ∃ i : Nat, index l [47] = (i : Int) := ⟨(index l [47]).toNat, by omega⟩
        rw [splitK, splitK, index_cons_ne l b 47 h, hii]
        have e1 : ¬ ((i : Int) == -1) = true := by simp <;> omega
        have e2 : ¬ ((i : Int) + 1 == -1) = true := by simp <;> omega
        rw [if_neg e1, if_neg e2, if_neg e1]
        have e3 : ((i : Int) + 1).toNat = i + 1 := by omega
        have e4 : (i : Int).toNat = i := by omega
        rw [e3, e4]
        simp
/-- names, put together again. -/
def joinN : List (List UInt8) → List UInt8
  | [] => []
  | [n] => n
  | n :: m :: ns => n ++ 47 :: joinN (m :: ns)
theorem joinN_cons (c : UInt8) (n : List UInt8) (ns : List (List UInt8)) : joinN ((c :: n) :: ns) = c :: joinN (n :: ns) := by
  cases ns <;> simp [joinN]
theorem joinN_names (l : List UInt8) : joinN (names l) = l := by
  induction l with
  | nil => rfl
  | cons c l ih =>
    have hne := names_ne l
    unfold names
    by_cases h : c = 47
    · rw [if_pos h]
      cases hn : names l with
      | nil => exact absurd hn hne
      | cons m ms => rw [joinN, ← hn, ih, h]; rfl
    · rw [if_neg h]
      cases hn : names l with
      | nil => exact absurd hn hne
      | cons m ms =>
        simp only
        rw [joinN_cons, ← hn, ih]
theorem names_inj {a b : List UInt8} (h : names a = names b) : a = b := by rw [← joinN_names a, ← joinN_names b, h]
/-! ### Comparing -/
/-- A comparison that parts whatever two are not one. -/
structure Good {α : Type} (f : α → α → Int) : Prop where
  refl : ∀ x, f x x = 0
  eq : ∀ x y, f x y = 0 → x = y
  lt : ∀ x y, f x y < 0 ↔ 0 < f y x
  trans : ∀ x y z, f x y < 0 → f y z < 0 → f x z < 0
/-- One list against another one, element by element. -/
def lexC {α : Type} (f : α → α → Int) : List α → List α → Int
  | [], [] => 0
  | [], _ :: _ => -1
  | _ :: _, [] => 1
  | a :: l, b :: m => if f a b = 0 then lexC f l m else f a b
theorem good_lex {α : Type} {f : α → α → Int} (g : Good f) : Good (lexC f) := by
  have hlt : ∀ x y : List α, lexC f x y < 0 ↔ 0 < lexC f y x := by
    intro x
    induction x with
    | nil =>
      intro y
      cases y <;> simp [lexC]
    | cons a la ih =>
      intro y
      cases y with
      | nil => simp [lexC]
      | cons b bs =>
        have h1 := g.lt a b
        have h2 := g.lt b a
        simp only [lexC]
        by_cases h : f a b = 0
        · have h' : f b a = 0 := by omega
          rw [if_pos h, if_pos h']
          exact ih bs
        · have h' : ¬ f b a = 0 := by omega
          rw [if_neg h, if_neg h']
          exact h1
  refine ⟨?_, ?_, hlt, ?_⟩
  · intro x
    induction x with
    | nil => rfl
    | cons a la ih => simp only [lexC]; rw [if_pos (g.refl a)]; exact ih
  · intro x
    induction x with
    | nil =>
      intro y h
      cases y with
      | nil => rfl
      | cons b bs => simp [lexC] at h
    | cons a la ih =>
      intro y h
      cases y with
      | nil => simp [lexC] at h
      | cons b bs =>
        simp only [lexC] at h
        by_cases h1 : f a b = 0
        · rw [if_pos h1] at h
          rw [g.eq a b h1, ih bs h]
        · rw [if_neg h1] at h
          exact absurd h h1
  · intro x
    induction x with
    | nil =>
      intro y z h1 h2
      cases z with
      | nil =>
        cases y with
        | nil => exact h1
        | cons b bs => simp [lexC] at h2
      | cons c cs => simp [lexC]
    | cons a la ih =>
      intro y z h1 h2
      cases y with
      | nil => simp [lexC] at h1
      | cons b bs =>
        cases z with
        | nil => simp [lexC] at h2
        | cons c cs =>
          simp only [lexC] at h1 h2 ⊢
          by_cases e1 : f a b = 0
          · have ea := g.eq a b e1
            subst ea
            rw [if_pos e1] at h1
            by_cases e2 : f a c = 0
            · rw [if_pos e2] at h2 ⊢
              exact ih bs cs h1 h2
            · rw [if_neg e2] at h2 ⊢
              exact h2
          · rw [if_neg e1] at h1
            by_cases e2 : f b c = 0
            · have eb := g.eq b c e2
              subst eb
              rw [if_neg e1]
              exact h1
            · rw [if_neg e2] at h2
              have h3 := g.trans a b c h1 h2
              rw [if_neg (by omega)]
              exact h3
def cmpU (a b : UInt8) : Int := if a < b then -1 else if b < a then 1 else 0
theorem cmpU_nat (a b : UInt8) : cmpU a b = if a.toNat < b.toNat then -1 else if b.toNat < a.toNat then 1 else 0 := by
  have hl : ∀ a b : UInt8, a < b ↔ a.toNat < b.toNat := fun a b => UInt8.lt_iff_toNat_lt
  unfold cmpU
  simp only [hl]
theorem good_u : Good cmpU := by
  refine ⟨?_, ?_, ?_, ?_⟩
  · intro x
    simp [cmpU]
  · intro x y h
    rw [cmpU_nat] at h
    apply UInt8.toNat.inj
    split at h
    · omega
    · split at h <;> omega
  · intro x y
    rw [cmpU_nat, cmpU_nat]
    split <;> split <;> (try split) <;> omega
  · intro x y z
    rw [cmpU_nat, cmpU_nat, cmpU_nat]
    split <;> split <;> (try split) <;> (try split) <;> (try split) <;> omega
theorem compare_lex : ∀ a b : List UInt8, compareBytes a b = lexC cmpU a b
  | [], [] => rfl
  | [], _ :: _ => rfl
  | _ :: _, [] => rfl
  | a :: la, b :: bs => by
    simp only [compareBytes, lexC, cmpU]
    rw [compare_lex la bs]
    by_cases h1 : a < b
    · simp [h1]
    · by_cases h2 : b < a
      · simp [h1, h2]
      · simp [h1, h2]
theorem good_bytes : Good compareBytes := by
  have h : compareBytes = lexC cmpU := by funext a b; exact compare_lex a b
  rw [h]
  exact good_lex good_u
/-- path.Compare: name by name, then by their number. -/
def cmpN : List (List UInt8) → List (List UInt8) → Int := lexC compareBytes
theorem good_names : Good cmpN := good_lex good_bytes
def pcmp (a b : ByteArray) : Int := cmpN (names a.data.toList) (names b.data.toList)
theorem good_path : Good pcmp where
  refl x := good_names.refl _
  eq x y h := by
    have h1 := names_inj (good_names.eq _ _ h)
    exact ByteArray.ext (Array.ext' h1)
  lt x y := good_names.lt _ _
  trans x y z := good_names.trans _ _ _
/-! ### Two sorted lists of the same -/
theorem perm_sorted {α : Type} (le : α → α → Prop) (anti : ∀ a b, le a b → le b a → a = b) : ∀ l m : List α, l.Perm m → l.Pairwise le → m.Pairwise le → (∀ a ∈ l, le a a) → l = m := by
  intro l
  induction l with
  | nil => intro m h _ _ _; exact h.nil_eq
  | cons a l ih =>
    intro m h hl hm hr
    cases m with
    | nil => exact absurd h.symm.nil_eq (by simp)
    | cons b m =>
      have hl' := List.pairwise_cons.1 hl
      have hm' := List.pairwise_cons.1 hm
      have hab : a = b := by
        have h1 : b ∈ a :: l := h.mem_iff.2 (by simp)
        have h2 : a ∈ b :: m := h.mem_iff.1 (by simp)
        rcases List.mem_cons.1 h1 with e | e
        · exact e.symm
        · rcases List.mem_cons.1 h2 with e2 | e2
          · exact e2
          · exact anti a b (hl'.1 b e) (hm'.1 a e2)
      subst hab
      rw [ih m (List.Perm.cons_inv h) hl'.2 hm'.2 (fun x hx => hr x (by simp [hx]))]
end Go.Proofs.YtkflalaocnghcaaDoorP

namespace Go.Proofs.YtkflalaocnghcaaDoorP
open Go Go.Lib
/-! What kind of a path a text is. Plain: no program here. -/
def signB (c : UInt8) : Bool := (decide (97 ≤ c) && decide (c ≤ 122)) || ((decide (48 ≤ c) && decide (c ≤ 57)) || (c == 95 || (c == 45 || c == 126)))
def signsL : List UInt8 := [97, 98, 99, 100, 101, 102, 103, 104, 105, 106, 107, 108, 109, 110, 111, 112, 113, 114, 115, 116, 117, 118, 119, 120, 121, 122, 48, 49, 50, 51, 52, 53, 54, 55, 56, 57, 95, 45, 126]
theorem signs_all : (List.range 256).all (fun n => decide (indexByte signsL (UInt8.ofNat n) < 0) == !signB (UInt8.ofNat n)) = true := by kernel_rfl
theorem signs_index (c : UInt8) : decide (indexByte signsL c < 0) = !signB c := by
  have h := List.all_eq_true.1 signs_all c.toNat (List.mem_range.2 c.toNat_lt)
  rw [UInt8.ofNat_toNat, beq_iff_eq] at h
  exact h
def plainL (s : List UInt8) : Bool := s.all signB && !s.isEmpty
/-- A name's kind; 0: it is none. -/
def kindL (s : List UInt8) : Int :=
  if 24 < s.length then 0 else if plainL (cut s [46]).1 = false then 0 else if (cut s [46]).2.2 = false then 1 else if plainL (cut s [46]).2.1 = true then 2 else 0
/-- The last one's kind, if all are names, and only the last one is a file's. -/
def kindsL : List (List UInt8) → Int → Option Int
  | [], k => some k
  | n :: l, _ => if kindL n = 0 then none else if kindL n = 2 ∧ l ≠ [] then none else kindsL l (kindL n)
def kindS (p : ByteArray) : Int × Int :=
  if 96 < p.size then (0, 3) else if p.size = 0 then (1, 0) else match kindsL (names p.data.toList) 0 with
    | none => (0, 18)
    | some k => if 8 < (names p.data.toList).length then (0, 7) else (k, 0)
theorem kindL_cases (s : List UInt8) : kindL s = 0 ∨ kindL s = 1 ∨ kindL s = 2 := by
  unfold kindL
  split
  · exact .inl rfl
  · split
    · exact .inl rfl
    · split
      · exact .inr (.inl rfl)
      · split
        · exact .inr (.inr rfl)
        · exact .inl rfl
end Go.Proofs.YtkflalaocnghcaaDoorP

namespace Go.Proofs.YtkflalaocnghcaaDoorP
open Go Go.Proofs Go.Shelf Go.RowKit Go.Lib
variable {P : Program} {ρ : Ren}
/-! strings.Cut at a sep of one byte: no package variable is asked. -/
set_option maxHeartbeats 2000000 in
set_option maxRecDepth 100000 in
theorem lite_cut_one (L : Lays.n220 P ρ) (s : ByteArray) (b : UInt8) (w : World) (hs : s.size < 4294967281) :
    Calls P (ρ.f 220) #[.string s, .string ⟨#[b]⟩] w fun e w' => e = .returned (.tuple #[.string ⟨(Lib.cut s.data.toList [b]).1.toArray⟩, .string ⟨(Lib.cut s.data.toList [b]).2.1.toArray⟩, .bool (Lib.cut s.data.toList [b]).2.2]) ∧ ∃ n, w' = w.drewN n := by
  have e0 : (⟨#[b]⟩ : ByteArray).data.toList = [b] := rfl
  rcases Lib.indexB_cases s ⟨#[b]⟩ with hix | ⟨i, hix, hroom⟩
  · obtain ⟨e1, e2, e3⟩ := Lib.cutB_miss s ⟨#[b]⟩ hix
    rw [e0] at e1 e2 e3
    rw [e1, e2, e3]
    have t3 := L.t3; have t4 := L.t4; have t9 := L.t9
    have a3 : ∀ w, (isAgg (ρ.t 3)).run P w = .ok false w := run_isAgg_plain L.t3 rfl; have a4 : ∀ w, (isAgg (ρ.t 4)).run P w = .ok false w := run_isAgg_plain L.t4 rfl; have a9 : ∀ w, (isAgg (ρ.t 9)).run P w = .ok false w := run_isAgg_plain L.t9 rfl
    have e219 : ∀ args w, (callFunc (ρ.f 219) args).run P w = .ok (.enter (ρ.f 219) args) w := enters_of L.f219 (by kernel_rfl) rfl
    have mixed := L.mixed; have z3 := L.z3; have v3 := L.v3; have z4 := L.z4; have v4 := L.v4; have z9 := L.z9; have v9 := L.v9
    have hib : Lib.indexByte s.data.toList b = -1 := by rw [← Lib.index_one]; exact hix
    go_enter L.f220, Body.n220_ntmps ρ
    go_wp2_with (go_at_fn (ρ.f 219); refine (Any.stringslite_Index_one { L with } _ _ _).mono ?_; rintro e w' ⟨rfl, rfl⟩; rw [hib])
    go_ret3
    exact ⟨rfl, 0, rfl⟩
  · obtain ⟨e1, e2, e3⟩ := Lib.cutB_hit s ⟨#[b]⟩ i hix
    have hs1 : (⟨#[b]⟩ : ByteArray).size = 1 := rfl
    rw [e0] at e1 e2 e3
    rw [e1, e2, e3]
    rw [hs1] at hroom
    have hib : Lib.indexByte s.data.toList b = (i : Int) := by rw [← Lib.index_one]; exact hix
    have c1 : (0 : Int) ≤ ↑i := by omega
    have c2 : (↑i : Int) ≤ ↑s.size := by omega
    have c3 : (0 : Int) ≤ ↑i + 1 := by omega
    have c4 : (↑i + 1 : Int) ≤ ↑s.size := by omega
    have c5 : IntKind.i64.wrap ((i : Int) + 1) = (i : Int) + 1 := IntWalk.i64_in _ (by omega)
    have t3 := L.t3; have t4 := L.t4; have t9 := L.t9
    have a3 : ∀ w, (isAgg (ρ.t 3)).run P w = .ok false w := run_isAgg_plain L.t3 rfl; have a4 : ∀ w, (isAgg (ρ.t 4)).run P w = .ok false w := run_isAgg_plain L.t4 rfl; have a9 : ∀ w, (isAgg (ρ.t 9)).run P w = .ok false w := run_isAgg_plain L.t9 rfl
    have e219 : ∀ args w, (callFunc (ρ.f 219) args).run P w = .ok (.enter (ρ.f 219) args) w := enters_of L.f219 (by kernel_rfl) rfl
    have mixed := L.mixed; have z3 := L.z3; have v3 := L.v3; have z4 := L.z4; have v4 := L.v4; have z9 := L.z9; have v9 := L.v9
    go_enter L.f220, Body.n220_ntmps ρ
    go_wp2_with (go_at_fn (ρ.f 219); refine (Any.stringslite_Index_one { L with } _ _ _).mono ?_; rintro e w' ⟨rfl, rfl⟩; rw [hib])
    go_region_o
    go_wp2
    go_ret3
    exact ⟨rfl, 1, rfl⟩
set_option maxHeartbeats 1000000 in
theorem cut_one (L : Lays.n145 P ρ) (s : ByteArray) (b : UInt8) (w : World) (hs : s.size < 4294967281) :
    Calls P (ρ.f 145) #[.string s, .string ⟨#[b]⟩] w fun e w' => e = .returned (.tuple #[.string ⟨(Lib.cut s.data.toList [b]).1.toArray⟩, .string ⟨(Lib.cut s.data.toList [b]).2.1.toArray⟩, .bool (Lib.cut s.data.toList [b]).2.2]) ∧ ∃ n, w' = w.drewN n := by
  have t4 := L.t4; have t9 := L.t9; have t59 := L.t59
  have a4 : ∀ w, (isAgg (ρ.t 4)).run P w = .ok false w := run_isAgg_plain L.t4 rfl; have a9 : ∀ w, (isAgg (ρ.t 9)).run P w = .ok false w := run_isAgg_plain L.t9 rfl; have a59 : ∀ w, (isAgg (ρ.t 59)).run P w = .ok false w := run_isAgg_plain L.t59 rfl
  have e220 : ∀ args w, (callFunc (ρ.f 220) args).run P w = .ok (.enter (ρ.f 220) args) w := enters_of L.f220 (by kernel_rfl) rfl
  have mixed := L.mixed; have z4 := L.z4; have v4 := L.v4; have z9 := L.z9; have v9 := L.v9; have z59 := L.z59; have v59 := L.v59
  go_enter L.f145, Body.n145_ntmps ρ
  go_wp2_with (go_at_fn (ρ.f 220); refine (lite_cut_one { L with } _ _ _ hs).mono ?_; rintro e w' ⟨rfl, n, rfl⟩)
  go_ret3
  exact ⟨rfl, n, rfl⟩
end Go.Proofs.YtkflalaocnghcaaDoorP

namespace Go.Proofs.YtkflalaocnghcaaDoorP
open Go Go.Proofs Go.Shelf Go.RowKit Go.Lib
variable {P : Program} {ρ : Ren}
/-! strings.Split at a sep of one byte: no package variable is asked. -/
set_option maxHeartbeats 1000000 in
theorem split_one (L : Lays.n146 P ρ) (hi9 : (P.info? (ρ.t 9)).map (fun i => (i.zero, i.size, i.bytes)) = some (some (.string ByteArray.empty), 1, 16)) (s : ByteArray) (b : UInt8) (w : World) (hs : s.size < 4294967281) :
    Calls P (ρ.f 146) #[.string s, .string ⟨#[b]⟩] w fun e w' =>
      e = .returned (.slice (some ⟨w.heap.size, 0, none⟩) (Lib.countB s ⟨#[b]⟩ + 1) (Lib.countB s ⟨#[b]⟩ + 1)) ∧ w' = w.alloc (.cells ((Lib.splitB ⟨#[b]⟩ 0 (Lib.countB s ⟨#[b]⟩) s).map Value.string).toArray (ρ.t 9)) := by
  have h1 : 1 ≤ (⟨#[b]⟩ : ByteArray).size := Nat.le_refl 1
  have hle := Lib.countB_le ⟨#[b]⟩ h1 s.size s (Nat.le_refl _)
  have hlen := Lib.splitB_all ⟨#[b]⟩ h1 0 _ s rfl
  have hcnt : Calls P (ρ.f 138) #[.string s, .string ⟨#[b]⟩] w fun e w' => e = .returned (.int .i64 (Lib.countB s ⟨#[b]⟩)) ∧ w' = w := by
    refine (Any.strings_Count_one { L with } s b w).mono fun e w' ⟨he, hw⟩ => ⟨?_, hw⟩
    rw [he]
    show _ = Ending.returned (Value.int .i64 ((Lib.count s.data.toList [b] : Nat) : Int))
    rw [Lib.count_one]
    rfl
  have c := Any.strings_genSplit_core { L with } hi9 s ⟨#[b]⟩ 0 (-1) (Lib.countB s ⟨#[b]⟩ + 1) w hs h1 (Nat.zero_le _)
    (fun x c _ => (Any.strings_Index_one { L with } x b _).mono (fun e w' h => ⟨by rw [h.1]; show _ = Ending.returned (Value.int .i64 (Lib.index x.data.toList [b])); rw [Lib.index_one], h.2⟩)) hcnt (by decide) (by decide) (by rw [if_pos (by decide)]; omega)
  rw [Nat.add_sub_cancel, hlen] at c
  have e2 : Lib.cellsOf (Lib.splitB ⟨#[b]⟩ 0 (Lib.countB s ⟨#[b]⟩) s) (Lib.countB s ⟨#[b]⟩ + 1) = ((Lib.splitB ⟨#[b]⟩ 0 (Lib.countB s ⟨#[b]⟩) s).map Value.string).toArray := by rw [← hlen]; exact Lib.cellsOf_full _
  rw [e2] at c
  have t3 := L.t3; have t9 := L.t9; have t31 := L.t31
  have a3 := L.a3; have a9 := L.a9; have a31 := L.a31
  have z3 := L.z3; have v3 := L.v3; have z9 := L.z9; have v9 := L.v9; have z31 := L.z31; have v31 := L.v31
  have e221 : ∀ args w, (callFunc (ρ.f 221) args).run P w = .ok (.enter (ρ.f 221) args) w := enters_of L.f221 (by kernel_rfl) rfl
  go_enter L.f146, Body.n146_ntmps ρ
  go_wp2_with (go_at_fn (ρ.f 221); refine c.mono ?_; rintro e w' ⟨rfl, hw⟩; rw [hw])
  go_ret
  exact ⟨rfl, rfl⟩
end Go.Proofs.YtkflalaocnghcaaDoorP

namespace Go.Proofs.YtkflalaocnghcaaDoor.Q
open Go Go.Proofs Go.Shelf
/-! The library's functions as they lie in this program: what the shelf's laying commands write, in plain words (tools/genlib.py). -/
def laySplit_ren : Go.Shelf.Ren := ⟨fun | 146 => 42 | 221 => 56 | 268 => 68 | 138 => 69 | 143 => 70 | 195 => 87 | 197 => 88 | 218 => 89 | 219 => 90 | 260 => 99 | 217 => 98 | 225 => 100 | 224 => 101 | 267 => 102 | 266 => 105 | 314 => 106 | n => n, fun | 9 => 9 | 31 => 22 | 3 => 3 | 4 => 4 | 0 => 0 | 105 => 100 | 21 => 21 | 5 => 5 | 46 => 73 | 119 => 112 | 139 => 115 | 138 => 114 | 146 => 116 | 51 => 93 | n => n, fun | 1 => 0 | 3 => 1 | 4 => 2 | n => n⟩
set_option maxRecDepth 100000 in
theorem laySplit : Go.Proofs.Lays.n146 Tryd.prog laySplit_ren := {
  mixed := by kernel_rfl,
  f138 := Tryd.func69.trans (congrArg some (by kernel_rfl)),
  f143 := Tryd.func70.trans (congrArg some (by kernel_rfl)),
  f146 := Tryd.func42.trans (congrArg some (by kernel_rfl)),
  f195 := Tryd.func87.trans (congrArg some (by kernel_rfl)),
  f197 := Tryd.func88.trans (congrArg some (by kernel_rfl)),
  f217 := Tryd.func98.trans (congrArg some (by kernel_rfl)),
  f218 := Tryd.func89.trans (congrArg some (by kernel_rfl)),
  f219 := Tryd.func90.trans (congrArg some (by kernel_rfl)),
  f221 := Tryd.func56.trans (congrArg some (by kernel_rfl)),
  f224 := Tryd.func101.trans (congrArg some (by kernel_rfl)),
  f225 := Tryd.func100.trans (congrArg some (by kernel_rfl)),
  f260 := Tryd.func99.trans (congrArg some (by kernel_rfl)),
  f266 := Tryd.func105.trans (congrArg some (by kernel_rfl)),
  f267 := Tryd.func102.trans (congrArg some (by kernel_rfl)),
  f268 := Tryd.func68.trans (congrArg some (by kernel_rfl)),
  f314 := Tryd.func106.trans (congrArg some (by kernel_rfl)),
  t0 := Tryd.underlying0,
  a0 := Tryd.isAgg0,
  z0 := Tryd.sizeOf0,
  v0 := Tryd.zeroValue0,
  t3 := Tryd.underlying3,
  a3 := Tryd.isAgg3,
  z3 := Tryd.sizeOf3,
  v3 := Tryd.zeroValue3,
  t4 := Tryd.underlying4,
  a4 := Tryd.isAgg4,
  z4 := Tryd.sizeOf4,
  v4 := Tryd.zeroValue4,
  t5 := Tryd.underlying5,
  a5 := Tryd.isAgg5,
  z5 := Tryd.sizeOf5,
  v5 := Tryd.zeroValue5,
  t9 := Tryd.underlying9,
  a9 := Tryd.isAgg9,
  z9 := Tryd.sizeOf9,
  v9 := Tryd.zeroValue9,
  t21 := Tryd.underlying21,
  a21 := Tryd.isAgg21,
  z21 := Tryd.sizeOf21,
  v21 := Tryd.zeroValue21,
  t31 := Tryd.underlying22,
  a31 := Tryd.isAgg22,
  z31 := Tryd.sizeOf22,
  v31 := Tryd.zeroValue22,
  t46 := Tryd.underlying73,
  a46 := Tryd.isAgg73,
  z46 := Tryd.sizeOf73,
  v46 := Tryd.zeroValue73,
  t51 := Tryd.underlying93,
  a51 := Tryd.isAgg93,
  z51 := Tryd.sizeOf93,
  v51 := Tryd.zeroValue93,
  t105 := Tryd.underlying100,
  a105 := Tryd.isAgg100,
  z105 := Tryd.sizeOf100,
  v105 := Tryd.zeroValue100,
  t119 := Tryd.underlying112,
  a119 := Tryd.isAgg112,
  z119 := Tryd.sizeOf112,
  t138 := Tryd.underlying114,
  a138 := Tryd.isAgg114,
  z138 := Tryd.sizeOf114,
  v138 := Tryd.zeroValue114,
  t139 := Tryd.underlying115,
  a139 := Tryd.isAgg115,
  z139 := Tryd.sizeOf115,
  v139 := Tryd.zeroValue115,
  t146 := Tryd.underlying116,
  a146 := Tryd.isAgg116,
  z146 := Tryd.sizeOf116,
  v146 := Tryd.zeroValue116,
  g1 := by kernel_rfl,
  g3 := by kernel_rfl,
  g4 := by kernel_rfl }
def layStrCmp_ren : Go.Shelf.Ren := ⟨fun | 106 => 47 | 213 => 61 | 265 => 82 | n => n, fun | 9 => 9 | 3 => 3 | n => n, fun | n => n⟩
set_option maxRecDepth 100000 in
theorem layStrCmp : Go.Proofs.Lays.n106 Tryd.prog layStrCmp_ren := {
  mixed := by kernel_rfl,
  f106 := Tryd.func47.trans (congrArg some (by kernel_rfl)),
  f213 := Tryd.func61.trans (congrArg some (by kernel_rfl)),
  f265 := Tryd.func82.trans (congrArg some (by kernel_rfl)),
  t3 := Tryd.underlying3,
  a3 := Tryd.isAgg3,
  z3 := Tryd.sizeOf3,
  v3 := Tryd.zeroValue3,
  t9 := Tryd.underlying9,
  a9 := Tryd.isAgg9,
  z9 := Tryd.sizeOf9,
  v9 := Tryd.zeroValue9 }
def layCut_ren : Go.Shelf.Ren := ⟨fun | 145 => 64 | 220 => 85 | 219 => 90 | 217 => 98 | 225 => 100 | 224 => 101 | 267 => 102 | 266 => 105 | 314 => 106 | n => n, fun | 9 => 9 | 4 => 4 | 59 => 79 | 3 => 3 | 5 => 5 | 46 => 73 | 146 => 116 | 51 => 93 | n => n, fun | 1 => 0 | n => n⟩
set_option maxRecDepth 100000 in
theorem layCut : Go.Proofs.Lays.n145 Tryd.prog layCut_ren := {
  mixed := by kernel_rfl,
  f145 := Tryd.func64.trans (congrArg some (by kernel_rfl)),
  f217 := Tryd.func98.trans (congrArg some (by kernel_rfl)),
  f219 := Tryd.func90.trans (congrArg some (by kernel_rfl)),
  f220 := Tryd.func85.trans (congrArg some (by kernel_rfl)),
  f224 := Tryd.func101.trans (congrArg some (by kernel_rfl)),
  f225 := Tryd.func100.trans (congrArg some (by kernel_rfl)),
  f266 := Tryd.func105.trans (congrArg some (by kernel_rfl)),
  f267 := Tryd.func102.trans (congrArg some (by kernel_rfl)),
  f314 := Tryd.func106.trans (congrArg some (by kernel_rfl)),
  t3 := Tryd.underlying3,
  a3 := Tryd.isAgg3,
  z3 := Tryd.sizeOf3,
  v3 := Tryd.zeroValue3,
  t4 := Tryd.underlying4,
  a4 := Tryd.isAgg4,
  z4 := Tryd.sizeOf4,
  v4 := Tryd.zeroValue4,
  t5 := Tryd.underlying5,
  a5 := Tryd.isAgg5,
  z5 := Tryd.sizeOf5,
  v5 := Tryd.zeroValue5,
  t9 := Tryd.underlying9,
  a9 := Tryd.isAgg9,
  z9 := Tryd.sizeOf9,
  v9 := Tryd.zeroValue9,
  t46 := Tryd.underlying73,
  a46 := Tryd.isAgg73,
  z46 := Tryd.sizeOf73,
  v46 := Tryd.zeroValue73,
  t51 := Tryd.underlying93,
  a51 := Tryd.isAgg93,
  z51 := Tryd.sizeOf93,
  v51 := Tryd.zeroValue93,
  t59 := Tryd.underlying79,
  a59 := Tryd.isAgg79,
  z59 := Tryd.sizeOf79,
  v59 := Tryd.zeroValue79,
  t146 := Tryd.underlying116,
  a146 := Tryd.isAgg116,
  z146 := Tryd.sizeOf116,
  v146 := Tryd.zeroValue116,
  g1 := by kernel_rfl }
def layIndexByte_ren : Go.Shelf.Ren := ⟨fun | 137 => 86 | 217 => 98 | 266 => 105 | n => n, fun | 9 => 9 | 5 => 5 | 3 => 3 | n => n, fun | n => n⟩
set_option maxRecDepth 100000 in
theorem layIndexByte : Go.Proofs.Lays.n137 Tryd.prog layIndexByte_ren := {
  mixed := by kernel_rfl,
  f137 := Tryd.func86.trans (congrArg some (by kernel_rfl)),
  f217 := Tryd.func98.trans (congrArg some (by kernel_rfl)),
  f266 := Tryd.func105.trans (congrArg some (by kernel_rfl)),
  t3 := Tryd.underlying3,
  a3 := Tryd.isAgg3,
  z3 := Tryd.sizeOf3,
  v3 := Tryd.zeroValue3,
  t5 := Tryd.underlying5,
  a5 := Tryd.isAgg5,
  z5 := Tryd.sizeOf5,
  v5 := Tryd.zeroValue5,
  t9 := Tryd.underlying9,
  a9 := Tryd.isAgg9,
  z9 := Tryd.sizeOf9,
  v9 := Tryd.zeroValue9 }
def layLastIdx_ren : Go.Shelf.Ren := ⟨fun | 149 => 97 | 222 => 104 | n => n, fun | 9 => 9 | 5 => 5 | 3 => 3 | 4 => 4 | n => n, fun | n => n⟩
set_option maxRecDepth 100000 in
theorem layLastIdx : Go.Proofs.Lays.n149 Tryd.prog layLastIdx_ren := {
  mixed := by kernel_rfl,
  f149 := Tryd.func97.trans (congrArg some (by kernel_rfl)),
  f222 := Tryd.func104.trans (congrArg some (by kernel_rfl)),
  t3 := Tryd.underlying3,
  a3 := Tryd.isAgg3,
  z3 := Tryd.sizeOf3,
  v3 := Tryd.zeroValue3,
  t4 := Tryd.underlying4,
  a4 := Tryd.isAgg4,
  z4 := Tryd.sizeOf4,
  v4 := Tryd.zeroValue4,
  t5 := Tryd.underlying5,
  a5 := Tryd.isAgg5,
  z5 := Tryd.sizeOf5,
  v5 := Tryd.zeroValue5,
  t9 := Tryd.underlying9,
  a9 := Tryd.isAgg9,
  z9 := Tryd.sizeOf9,
  v9 := Tryd.zeroValue9 }
def layBString_ren : Go.Shelf.Ren := ⟨fun | 169 => 41 | n => n, fun | 70 => 52 | 9 => 9 | 0 => 0 | 72 => 55 | 37 => 53 | 127 => 69 | 3 => 3 | 5 => 5 | n => n, fun | n => n⟩
set_option maxRecDepth 100000 in
theorem layBString : Go.Proofs.Lays.n169 Tryd.prog layBString_ren := {
  mixed := by kernel_rfl,
  f169 := Tryd.func41.trans (congrArg some (by kernel_rfl)),
  t0 := Tryd.underlying0,
  a0 := Tryd.isAgg0,
  z0 := Tryd.sizeOf0,
  v0 := Tryd.zeroValue0,
  t3 := Tryd.underlying3,
  a3 := Tryd.isAgg3,
  z3 := Tryd.sizeOf3,
  v3 := Tryd.zeroValue3,
  t9 := Tryd.underlying9,
  a9 := Tryd.isAgg9,
  z9 := Tryd.sizeOf9,
  v9 := Tryd.zeroValue9,
  t37 := Tryd.underlying53,
  a37 := Tryd.isAgg53,
  z37 := Tryd.sizeOf53,
  v37 := Tryd.zeroValue53,
  t70 := Tryd.underlying52,
  a70 := Tryd.isAgg52,
  z70 := Tryd.sizeOf52,
  v70 := Tryd.zeroValue52,
  t72 := Tryd.underlying55,
  a72 := Tryd.isAgg55,
  z72 := Tryd.sizeOf55,
  v72 := Tryd.zeroValue55,
  t127 := Tryd.underlying69,
  a127 := Tryd.isAgg69,
  z127 := Tryd.sizeOf69,
  v127 := Tryd.zeroValue69 }
def layIntCmp_ren : Go.Shelf.Ren := ⟨fun | 5 => 48 | 7 => 62 | n => n, fun | 22 => 3 | 3 => 3 | 4 => 4 | n => n, fun | n => n⟩
set_option maxRecDepth 100000 in
theorem layIntCmp : Go.Proofs.SlLaysC2.n5 Tryd.prog layIntCmp_ren := {
  mixed := by kernel_rfl,
  f5 := ⟨Tryd.f48.name, by decide, Tryd.func48.trans (congrArg some (by kernel_rfl))⟩,
  f7 := ⟨Tryd.f62.name, by decide, Tryd.func62.trans (congrArg some (by kernel_rfl))⟩,
  t3 := Tryd.underlying3,
  a3 := Tryd.isAgg3,
  z3 := Tryd.sizeOf3,
  v3 := Tryd.zeroValue3,
  t4 := Tryd.underlying4,
  a4 := Tryd.isAgg4,
  z4 := Tryd.sizeOf4,
  v4 := Tryd.zeroValue4,
  t22 := Tryd.underlying3,
  a22 := Tryd.isAgg3,
  z22 := Tryd.sizeOf3,
  v22 := Tryd.zeroValue3 }
def laySort_ren : Go.Shelf.Ren := ⟨fun | 6 => 44 | 15 => 58 | 14 => 57 | 28 => 79 | 29 => 80 | 20 => 71 | 21 => 72 | 22 => 73 | 23 => 74 | 24 => 75 | 25 => 76 | 26 => 77 | 27 => 78 | 46 => 91 | 47 => 92 | 48 => 93 | 49 => 94 | 50 => 95 | 57 => 103 | n => n, fun | 22 => 22 | 24 => 9 | 25 => 45 | 3 => 3 | 39 => 73 | 0 => 0 | 53 => 93 | 55 => 95 | 4 => 4 | 46 => 86 | 45 => 85 | 50 => 90 | 5 => 5 | 9 => 9 | 66 => 102 | 70 => 106 | 76 => 110 | 77 => 63 | n => n, fun | n => n⟩
set_option maxRecDepth 100000 in
theorem laySort : Go.Proofs.SlLaysF.n6 Tryd.prog laySort_ren := {
  mixed := by kernel_rfl,
  f6 := ⟨Tryd.f44.name, by decide, Tryd.func44.trans (congrArg some (by kernel_rfl))⟩,
  f14 := ⟨Tryd.f57.name, by decide, Tryd.func57.trans (congrArg some (by kernel_rfl))⟩,
  f15 := Tryd.func58.trans (congrArg some (by kernel_rfl)),
  f20 := ⟨Tryd.f71.name, by decide, Tryd.func71.trans (congrArg some (by kernel_rfl))⟩,
  f21 := ⟨Tryd.f72.name, by decide, Tryd.func72.trans (congrArg some (by kernel_rfl))⟩,
  f22 := ⟨Tryd.f73.name, by decide, Tryd.func73.trans (congrArg some (by kernel_rfl))⟩,
  f23 := ⟨Tryd.f74.name, by decide, Tryd.func74.trans (congrArg some (by kernel_rfl))⟩,
  f24 := ⟨Tryd.f75.name, by decide, Tryd.func75.trans (congrArg some (by kernel_rfl))⟩,
  f25 := ⟨Tryd.f76.name, by decide, Tryd.func76.trans (congrArg some (by kernel_rfl))⟩,
  f26 := ⟨Tryd.f77.name, by decide, Tryd.func77.trans (congrArg some (by kernel_rfl))⟩,
  f27 := ⟨Tryd.f78.name, by decide, Tryd.func78.trans (congrArg some (by kernel_rfl))⟩,
  f28 := Tryd.func79.trans (congrArg some (by kernel_rfl)),
  f29 := Tryd.func80.trans (congrArg some (by kernel_rfl)),
  f46 := ⟨Tryd.f91.name, by decide, Tryd.func91.trans (congrArg some (by kernel_rfl))⟩,
  f47 := Tryd.func92.trans (congrArg some (by kernel_rfl)),
  f48 := Tryd.func93.trans (congrArg some (by kernel_rfl)),
  f49 := ⟨Tryd.f94.name, by decide, Tryd.func94.trans (congrArg some (by kernel_rfl))⟩,
  f50 := ⟨Tryd.f95.name, by decide, Tryd.func95.trans (congrArg some (by kernel_rfl))⟩,
  f57 := ⟨Tryd.f103.name, by decide, Tryd.func103.trans (congrArg some (by kernel_rfl))⟩,
  t0 := Tryd.underlying0,
  a0 := Tryd.isAgg0,
  z0 := Tryd.sizeOf0,
  v0 := Tryd.zeroValue0,
  t3 := Tryd.underlying3,
  a3 := Tryd.isAgg3,
  z3 := Tryd.sizeOf3,
  v3 := Tryd.zeroValue3,
  t4 := Tryd.underlying4,
  a4 := Tryd.isAgg4,
  z4 := Tryd.sizeOf4,
  v4 := Tryd.zeroValue4,
  t5 := Tryd.underlying5,
  a5 := Tryd.isAgg5,
  z5 := Tryd.sizeOf5,
  v5 := Tryd.zeroValue5,
  t9 := Tryd.underlying9,
  a9 := Tryd.isAgg9,
  z9 := Tryd.sizeOf9,
  v9 := Tryd.zeroValue9,
  t22 := Tryd.underlying22,
  a22 := Tryd.isAgg22,
  z22 := Tryd.sizeOf22,
  v22 := Tryd.zeroValue22,
  a24 := Tryd.isAgg9,
  z24 := Tryd.sizeOf9,
  t25 := Tryd.underlying45,
  a25 := Tryd.isAgg45,
  z25 := Tryd.sizeOf45,
  v25 := Tryd.zeroValue45,
  t39 := Tryd.underlying73,
  a39 := Tryd.isAgg73,
  z39 := Tryd.sizeOf73,
  v39 := Tryd.zeroValue73,
  t45 := Tryd.underlying85,
  a45 := Tryd.isAgg85,
  z45 := Tryd.sizeOf85,
  v45 := Tryd.zeroValue85,
  t46 := Tryd.underlying86,
  a46 := Tryd.isAgg86,
  z46 := Tryd.sizeOf86,
  v46 := Tryd.zeroValue86,
  t50 := Tryd.underlying90,
  a50 := Tryd.isAgg90,
  z50 := Tryd.sizeOf90,
  v50 := Tryd.zeroValue90,
  t53 := Tryd.underlying93,
  a53 := Tryd.isAgg93,
  z53 := Tryd.sizeOf93,
  v53 := Tryd.zeroValue93,
  t55 := Tryd.underlying95,
  a55 := Tryd.isAgg95,
  z55 := Tryd.sizeOf95,
  v55 := Tryd.zeroValue95,
  t66 := Tryd.underlying102,
  a66 := Tryd.isAgg102,
  z66 := Tryd.sizeOf102,
  v66 := Tryd.zeroValue102,
  t70 := Tryd.underlying106,
  a70 := Tryd.isAgg106,
  z70 := Tryd.sizeOf106,
  v70 := Tryd.zeroValue106,
  t76 := Tryd.underlying110,
  a76 := Tryd.isAgg110,
  z76 := Tryd.sizeOf110,
  v76 := Tryd.zeroValue110,
  t77 := Tryd.underlying63,
  a77 := Tryd.isAgg63,
  z77 := Tryd.sizeOf63,
  v77 := Tryd.zeroValue63 }
def layClone_ren : Go.Shelf.Ren := ⟨fun | 42 => 43 | n => n, fun | 25 => 22 | 26 => 9 | 4 => 4 | n => n, fun | n => n⟩
set_option maxRecDepth 100000 in
theorem layClone : Go.Proofs.SlLaysN.n42 Tryd.prog layClone_ren := {
  mixed := by kernel_rfl,
  f42 := ⟨Tryd.f43.name, by decide, Tryd.func43.trans (congrArg some (by kernel_rfl))⟩,
  t4 := Tryd.underlying4,
  a4 := Tryd.isAgg4,
  z4 := Tryd.sizeOf4,
  v4 := Tryd.zeroValue4,
  t25 := Tryd.underlying22,
  a25 := Tryd.isAgg22,
  z25 := Tryd.sizeOf22,
  v25 := Tryd.zeroValue22,
  t26 := Tryd.underlying9,
  a26 := Tryd.isAgg9,
  z26 := Tryd.sizeOf9,
  v26 := Tryd.zeroValue9,
  i26 := by kernel_rfl }
def layWriteString_ren : Go.Shelf.Ren := ⟨fun | 166 => 40 | 240 => 55 | 276 => 67 | n => n, fun | 70 => 52 | 9 => 9 | 0 => 0 | 72 => 55 | 37 => 53 | 3 => 3 | 5 => 5 | 4 => 4 | 20 => 20 | 75 => 57 | 80 => 60 | 164 => 81 | n => n, fun | n => n⟩
set_option maxRecDepth 100000 in
theorem layWriteString : Go.Proofs.Lays.n166 Tryd.prog layWriteString_ren := {
  mixed := by kernel_rfl,
  f166 := Tryd.func40.trans (congrArg some (by kernel_rfl)),
  f240 := Tryd.func55.trans (congrArg some (by kernel_rfl)),
  f276 := Tryd.func67.trans (congrArg some (by kernel_rfl)),
  t0 := Tryd.underlying0,
  a0 := Tryd.isAgg0,
  z0 := Tryd.sizeOf0,
  v0 := Tryd.zeroValue0,
  t3 := Tryd.underlying3,
  a3 := Tryd.isAgg3,
  z3 := Tryd.sizeOf3,
  v3 := Tryd.zeroValue3,
  t4 := Tryd.underlying4,
  a4 := Tryd.isAgg4,
  z4 := Tryd.sizeOf4,
  v4 := Tryd.zeroValue4,
  t9 := Tryd.underlying9,
  a9 := Tryd.isAgg9,
  z9 := Tryd.sizeOf9,
  v9 := Tryd.zeroValue9,
  t20 := Tryd.underlying20,
  a20 := Tryd.isAgg20,
  z20 := Tryd.sizeOf20,
  v20 := Tryd.zeroValue20,
  t37 := Tryd.underlying53,
  a37 := Tryd.isAgg53,
  z37 := Tryd.sizeOf53,
  v37 := Tryd.zeroValue53,
  t70 := Tryd.underlying52,
  a70 := Tryd.isAgg52,
  z70 := Tryd.sizeOf52,
  v70 := Tryd.zeroValue52,
  t72 := Tryd.underlying55,
  a72 := Tryd.isAgg55,
  z72 := Tryd.sizeOf55,
  v72 := Tryd.zeroValue55,
  t75 := Tryd.underlying57,
  a75 := Tryd.isAgg57,
  z75 := Tryd.sizeOf57,
  v75 := Tryd.zeroValue57,
  t164 := Tryd.underlying81,
  a164 := Tryd.isAgg81,
  z164 := Tryd.sizeOf81,
  v164 := Tryd.zeroValue81 }
theorem layWriteStringX : Go.Proofs.Builder.Extra Tryd.prog layWriteString_ren := {
  sizeBuilder := by kernel_rfl,
  liesBuilder := by kernel_rfl,
  t5 := Tryd.underlying5,
  a5 := Tryd.isAgg5,
  z5 := Tryd.sizeOf5,
  v5 := Tryd.zeroValue5,
  infoByte := by kernel_rfl,
  cellsByte := by kernel_rfl,
  sizeByte := by kernel_rfl,
  neB5 := by decide }
theorem layBStringX : Go.Proofs.Builder.Extra Tryd.prog layBString_ren := {
  sizeBuilder := by kernel_rfl,
  liesBuilder := by kernel_rfl,
  t5 := Tryd.underlying5,
  a5 := Tryd.isAgg5,
  z5 := Tryd.sizeOf5,
  v5 := Tryd.zeroValue5,
  infoByte := by kernel_rfl,
  cellsByte := by kernel_rfl,
  sizeByte := by kernel_rfl,
  neB5 := by decide }
end Go.Proofs.YtkflalaocnghcaaDoor.Q

namespace Go.Proofs.YtkflalaocnghcaaDoorK
open Go Go.RowKit Go.Proofs.YtkflalaocnghcaaDoorW.PrintWords
/-! A whole box (a struct's, an array's) is read, or written, at once. -/
theorem grown_setRow (w : World) (g : Nat) (cs : Array Value) : w.grownBy (w.setRow g cs) (some g) := by
  constructor
  all_goals first | rfl | (simp; done) | skip
  all_goals intro k hk hne
  all_goals exact setRow_other w g k cs (by intro e; exact hne (by rw [e]))
theorem below_box {w W W1 : World} {g : Nat} (h : Below w.heap.size w W) (hg : W.grownBy W1 (some g)) (hb : w.heap.size ≤ g) : Below w.heap.size w W1 :=
  h.grown hg h.size (fun k hk => by cases hk; exact hb)
section
variable {P : Program} {ops : Array Oper} {rest : List Oper} {o : Oper} {a : Act} {W : World} {Q : Exit → Act → World → Prop}
theorem box_store (hgd : o.guard = none) (hN : o.dst = none) (ty : TypeId) (x y : Operand) (ho : o.op = .store ty x y)
    {g : Nat} {t : TypeId} {old : Array Value} (hg : W.heap[g]? = some (.cells old t (0, 0))) (cells : Array Value) (hx : a.eval x = .pointer (some ⟨g, 0, none⟩)) (hy : a.eval y = .agg cells)
    (hi : (P.info? ty).map (·.size) = some cells.size) (hold : old.size = cells.size) (h1 : cells.toList.all (·.oneCell') = true)
    (h : ∀ w1, w1.heap[g]? = some (.cells cells t (0, 0)) → W.grownBy w1 (some g) → wpList P ops Q rest a w1) : wpList P ops Q (o :: rest) a W := by
  refine wpList_store_row hgd ty x y ho g cells hx hy t old hg hi hold (by rw [← Array.all_toList]; exact h1) ?_
  rw [hN]
  exact h _ (setRow_heap W g old cells t (0, 0) hg) (grown_setRow W g cells)
theorem box_load (hgd : o.guard = none) (ty : TypeId) (x : Operand) (ho : o.op = .load ty x) {g : Nat} {t : TypeId} {cs : Array Value} (hg : W.heap[g]? = some (.cells cs t (0, 0)))
    (hx : a.eval x = .pointer (some ⟨g, 0, none⟩)) {d : TypeDesc} (hu : P.underlying ty = some d) (hd : (match d with | .struct _ | .array _ _ => true | _ => false) = true)
    (hi : (P.info? ty).map (·.size) = some cs.size) (h : wpList P ops Q rest (a.put o.dst (.agg cs)) W) : wpList P ops Q (o :: rest) a W :=
  wpList_load_row hgd ty x ho g hx t cs (0, 0) d hg hu hd hi h
theorem results_row_tmp {fn : Func} {p q : Tmp} {ty : TypeId} (h : fn.results = #[.cell p ty, .tmp q]) (tmps : Array Value) (w : World) {g : Nat} {t : TypeId} {cs : Array Value} {d : TypeDesc} (v : Value)
    (hg : w.heap[g]? = some (.cells cs t (0, 0))) (hp : tmps.getD p undef = .pointer (some ⟨g, 0, none⟩)) (hq : tmps.getD q undef = v)
    (hu : P.underlying ty = some d) (hd : (match d with | .struct _ | .array _ _ => true | _ => false) = true) (hi : (P.info? ty).map (·.size) = some cs.size) :
    (results fn tmps).run P w = .ok (.tuple #[.agg cs, v]) w := by
  have hp' : tmps[p]?.getD undef = .pointer (some ⟨g, 0, none⟩) := by simpa using hp
  have hq' : tmps[q]?.getD undef = v := by simpa using hq
  simp [results, h, hp', hq', asAddr, run_loadVar_row w g t ty cs (0, 0) d hg hu hd hi]
end
end Go.Proofs.YtkflalaocnghcaaDoorK

namespace Go.Proofs.YtkflalaocnghcaaDoorK
open Go Go.RowKit Go.Proofs.YtkflalaocnghcaaDoorW.PrintWords
/-! What a walk keeps, by classes: each world tells the one it came of; what was known of a block, or of a row, is known at every later world without a word. -/
/-- Which of the elder blocks may have been written: none, one, or all from b on. -/
inductive Touch where
  | none
  | row (g : Nat)
  | above (b : Nat)
/-- Block k was not. -/
def Touch.Ok : Touch → Nat → Prop
  | .none, _ => True
  | .row g, k => k ≠ g
  | .above b, k => k < b
structure Kept0 (W W' : World) (T : Touch) : Prop where
  os : W'.os = W.os
  tape : W'.tape = W.tape
  output : W'.output = W.output
  size : W.heap.size ≤ W'.heap.size
  block : ∀ k, k < W.heap.size → T.Ok k → W'.heap[k]? = W.heap[k]?
/-- W' came of W. -/
class Prev (W' : World) (W : outParam World) (T : outParam Touch) : Prop where
  out : Kept0 W W' T
theorem kept_below {W W' : World} (h : Below W.heap.size W W') : Kept0 W W' .none := ⟨h.os, h.tape, h.output, h.size, fun k hk _ => h.block k hk⟩
theorem kept_above {W W' : World} {b : Nat} (h : Below b W W') : Kept0 W W' (.above b) := ⟨h.os, h.tape, h.output, h.size, fun k _ hk => h.block k hk⟩
theorem kept_row {W W' : World} {g : Nat} (h : W.grownBy W' (some g)) : Kept0 W W' (.row g) := ⟨h.os, h.tape, h.output, h.size, fun k hk hne => h.block k hk (fun e => hne (Option.some.inj e))⟩
theorem kept_grown {W W' : World} (h : W.grownBy W' Option.none) : Kept0 W W' .none := ⟨h.os, h.tape, h.output, h.size, fun k hk _ => h.block k hk (by simp)⟩
instance (W : World) (o : Obj) : Prev (W.alloc o) W .none := ⟨kept_grown (World.grownBy_alloc W o Option.none)⟩
instance (W : World) : Prev W.drew W .none := ⟨⟨rfl, rfl, rfl, Nat.le_refl _, fun _ _ _ => rfl⟩⟩
instance (W : World) (n : Nat) : Prev (W.drewN n) W .none := ⟨kept_below (pw_below_drewN (Below.refl W.heap.size W) n)⟩
instance (W : World) (g j : Nat) (v : Value) : Prev (W.setCell ⟨g, j, Option.none⟩ v) W (.row g) := by
  have h := (Below.refl g W).setCell (p := ⟨g, j, Option.none⟩) (Nat.le_refl _) v
  exact ⟨⟨h.os, h.tape, h.output, by simp [World.setCell], fun k _ hne => Below.heap_setCell W ⟨g, j, Option.none⟩ v k hne⟩⟩
theorem prev_call {W W1 : World} (h : Below W.heap.size W W1) : Prev W1 W .none := ⟨kept_below h⟩
theorem prev_above {W W1 : World} {b : Nat} (h : Below b W W1) : Prev W1 W (.above b) := ⟨kept_above h⟩
theorem prev_row {W W1 : World} {g : Nat} (h : W.grownBy W1 (some g)) : Prev W1 W (.row g) := ⟨kept_row h⟩
/-- The row that an append may have written. -/
def touchOf : Option Nat → Touch
  | Option.none => .none
  | some g => .row g
theorem prev_grown {W W1 : World} {row : Option Nat} (h : W.grownBy W1 row) : Prev W1 W (touchOf row) := by
  cases row with
  | none => exact ⟨kept_grown h⟩
  | some g => exact prev_row h
/-- Block g is not what was written. -/
class Apart (g : Nat) (T : Touch) : Prop where
  out : T.Ok g
instance (g : Nat) : Apart g .none := ⟨trivial⟩
theorem apart_ne {g g' : Nat} (h : g ≠ g') : Apart g (.row g') := ⟨h⟩
theorem apart_lt {g b : Nat} (h : g < b) : Apart g (.above b) := ⟨h⟩
instance (n : Nat) : Apart n (.above (n + 1)) := ⟨Nat.lt_succ_self n⟩
instance (n : Nat) : Apart n (.above (n + 2)) := ⟨by show n < n + 2; omega⟩
instance (n : Nat) : Apart n (.row (n + 1)) := ⟨Nat.ne_of_lt (Nat.lt_succ_self n)⟩
/-- What was written is b's own: block b or a later one. -/
class OwnB (b : Nat) (T : Touch) : Prop where
  out : ∀ k, k < b → T.Ok k
instance (b : Nat) : OwnB b .none := ⟨fun _ _ => trivial⟩
theorem own_row {b g : Nat} (h : b ≤ g) : OwnB b (.row g) := ⟨fun k hk e => by subst e; omega⟩
theorem own_above {b g : Nat} (h : b ≤ g) : OwnB b (.above g) := ⟨fun _ hk => Nat.lt_of_lt_of_le hk h⟩
instance (b : Nat) : OwnB b (.row b) := own_row (Nat.le_refl b)
instance (b n : Nat) : OwnB b (.row (b + n)) := own_row (Nat.le_add_right b n)
instance (b : Nat) : OwnB b (.above b) := own_above (Nat.le_refl b)
instance (b n : Nat) : OwnB b (.above (b + n)) := own_above (Nat.le_add_right b n)
/-- Below b nothing is turned. -/
class Bel (b : Nat) (W W' : World) : Prop where
  out : b ≤ W.heap.size → Below b W W'
instance (b : Nat) (W : World) : Bel b W W := ⟨fun _ => Below.refl _ _⟩
instance (b : Nat) (W W1 W' : World) (T : Touch) [p : Prev W' W1 T] [h : Bel b W W1] [o : OwnB b T] : Bel b W W' :=
  ⟨fun hb => by
    have h1 := h.out hb
    have h2 := p.out
    refine h1.trans ⟨h2.os, h2.tape, h2.output, h2.size, fun k hk => h2.block k (by have := h1.size; omega) (o.out k hk)⟩⟩
theorem bel (w W : World) [h : Bel w.heap.size w W] : Below w.heap.size w W := h.out (Nat.le_refl _)
theorem siz (w W : World) [h : Bel w.heap.size w W] : w.heap.size ≤ W.heap.size := (bel w W).size
/-- How large the heap is at least. -/
class Size (n : Nat) (W : World) : Prop where
  out : n ≤ W.heap.size
instance (W : World) : Size W.heap.size W := ⟨Nat.le_refl _⟩
instance (priority := low) (n : Nat) (W W' : World) (T : Touch) [p : Prev W' W T] [h : Size n W] : Size n W' := ⟨Nat.le_trans h.out p.out.size⟩
instance (W : World) (o : Obj) : Size (W.heap.size + 1) (W.alloc o) := ⟨by rw [World.size_alloc]; exact Nat.le_refl _⟩
/-- Block g of world W is o. -/
class Holds (W : World) (g : Nat) (o : outParam Obj) : Prop where
  out : W.heap[g]? = some o
instance holds_new (W : World) (o : Obj) : Holds (W.alloc o) W.heap.size o := ⟨blk_new W o⟩
instance (W : World) (o1 o : Obj) : Holds ((W.alloc o1).alloc o) (W.heap.size + 1) o := ⟨by have := blk_new (W.alloc o1) o; rwa [World.size_alloc] at this⟩
instance (W : World) (o1 o2 o : Obj) : Holds (((W.alloc o1).alloc o2).alloc o) (W.heap.size + 2) o := ⟨by have := blk_new ((W.alloc o1).alloc o2) o; rwa [World.size_alloc, World.size_alloc] at this⟩
instance (priority := low) holds_step (W' W : World) (T : Touch) (g : Nat) (o : Obj) [p : Prev W' W T] [a : Apart g T] [h : Holds W g o] : Holds W' g o := ⟨(p.out.block g (blk_lt h.out) a.out).trans h.out⟩
instance (W : World) (g j : Nat) (v : Value) (cs : Array Value) (t : TypeId) [h : Holds W g (.cells cs t (0, 0))] : Holds (W.setCell ⟨g, j, Option.none⟩ v) g (.cells (cs.setIfInBounds j v) t (0, 0)) := ⟨blk_set h.out j v⟩
theorem held {W : World} {g : Nat} {o : Obj} [h : Holds W g o] : W.heap[g]? = some o := h.out
theorem cell_held {W : World} {g j : Nat} {cs : Array Value} {t : TypeId} [h : Holds W g (.cells cs t (0, 0))] : W.cell? ⟨g, j, Option.none⟩ = cs[j]? := blk_cell h.out j
theorem frozen_held {W : World} {g j : Nat} {cs : Array Value} {t : TypeId} [h : Holds W g (.cells cs t (0, 0))] : W.frozen? ⟨g, j, Option.none⟩ = false := blk_frozen h.out j
theorem held_lt {W : World} {g : Nat} {o : Obj} [h : Holds W g o] : g < W.heap.size := blk_lt h.out
/-- No block of the types L was written. -/
class NoRow (L : List Nat) (W : World) (T : Touch) : Prop where
  out : ∀ k t cells, W.heap[k]? = some (.cells cells t (0, 0)) → t ∈ L → T.Ok k
instance (L : List Nat) (W : World) : NoRow L W .none := ⟨fun _ _ _ _ _ => trivial⟩
theorem noRow_row {L : List Nat} {W : World} {g t : Nat} {cs : Array Value} (h : W.heap[g]? = some (.cells cs t (0, 0))) (hL : ∀ q, q ∈ L → q ≠ t) : NoRow L W (.row g) :=
  ⟨fun k t' cells hc ht e => by
    subst e
    rw [hc] at h
    injection h with h
    injection h with _ h
    exact hL t' ht h⟩
/-- Rows of the types L are kept. -/
class Rows0 (L : List Nat) (W W' : World) : Prop where
  out : ∀ {α : Type} (d : Kd α) (e base : Nat) (v : Value) (xs : List α), e :: d.E = L → d.R e W base (fun _ => True) v xs → d.R e W' base (fun _ => True) v xs
instance (L : List Nat) (W : World) : Rows0 L W W := ⟨fun _ _ _ _ _ _ h => h⟩
instance (L : List Nat) (W W1 W' : World) (T : Touch) [p : Prev W' W1 T] [h : Rows0 L W W1] [o : NoRow L W1 T] : Rows0 L W W' :=
  ⟨fun d e base v xs hL hr => by
    have h1 := h.out d e base v xs hL hr
    refine Kd.R_mono (Kd.R_step (Kd.R_bound h1) (fun k hk hlt => ?_)) (fun _ hk => hk.1)
    obtain ⟨_, _, _, q, hq, cells, hc⟩ := hk
    exact p.out.block k hlt (o.out k q cells hc (by rw [← hL]; exact hq))⟩
theorem apart_R {α : Type} {d : Kd α} {e base : Nat} {W : World} {v : Value} {xs : List α} {ok : Nat → Prop} (h : d.R e W base ok v xs) {g t : Nat} {cs : Array Value} (hg : W.heap[g]? = some (.cells cs t (0, 0))) (ht : e ≠ t) : Apart g (touchOf v.ownBlock) := by
  have h1 := Kd.R_ne h hg ht
  constructor
  cases hv : v.ownBlock with
  | none => trivial
  | some k => exact fun he => h1 (by rw [hv, he])
theorem ownB_R {α : Type} {d : Kd α} {e base b : Nat} {W : World} {v : Value} {xs : List α} {ok : Nat → Prop} (h : d.R e W base ok v xs) (hb : b ≤ base) : OwnB b (touchOf v.ownBlock) := by
  have h1 := Kd.R_base h
  cases hv : v.ownBlock with
  | none => exact ⟨fun _ _ => trivial⟩
  | some k => exact own_row (Nat.le_trans hb (h1 k hv))
theorem noRow_R {α : Type} {d : Kd α} {e base : Nat} {W : World} {v : Value} {xs : List α} {ok : Nat → Prop} {L : List Nat} (h : d.R e W base ok v xs) (hL : ∀ q, q ∈ L → q ≠ e) : NoRow L W (touchOf v.ownBlock) := by
  have h1 := Kd.R_typed h
  cases hv : v.ownBlock with
  | none => exact ⟨fun _ _ _ _ _ => trivial⟩
  | some k =>
    obtain ⟨cells, hc⟩ := h1 k hv
    exact noRow_row hc hL
theorem rowK {α : Type} {d : Kd α} {e base : Nat} {W W' : World} {v : Value} {xs : List α} (h : d.R e W base (fun _ => True) v xs) [r : Rows0 (e :: d.E) W W'] : d.R e W' base (fun _ => True) v xs := r.out d e base v xs rfl h
end Go.Proofs.YtkflalaocnghcaaDoorK

namespace Go.Proofs.YtkflalaocnghcaaDoor.Q
open Go Go.Proofs Go.Shelf Go.RowKit Go.Lib Go.Sort Go.Proofs.YtkflalaocnghcaaDoorP Go.Proofs.YtkflalaocnghcaaDoorK Go.Proofs.YtkflalaocnghcaaDoorW.PrintWords Go.Proofs.YtkflalaocnghcaaDoorW.PrintLast Go.Proofs.YtkflalaocnghcaaDoorW.PrintMore
set_option linter.unusedSimpArgs false
set_option linter.unusedVariables false
/-! ### path.plain, path.kind, path.Kind -/
theorem split_c (W : World) (s : ByteArray) (hs : s.size < 4294967281) : Calls Tryd.prog 42 #[.string s, .string ⟨#[47]⟩] W fun e w' => ∃ l : List ByteArray, Aside0 (l.map (·.data.toList) = names s.data.toList) ∧ l.length ≤ 4294967281 ∧ e = .returned (.slice (some ⟨W.heap.size, 0, none⟩) l.length l.length) ∧ w' = W.alloc (.cells (l.map Value.string).toArray 9) := by
  have h := split_one laySplit (by kernel_rfl) s 47 W hs
  have hl := Lib.splitB_all ⟨#[47]⟩ (Nat.le_refl 1) 0 _ s rfl
  have hn : (Lib.splitB ⟨#[47]⟩ 0 (Lib.countB s ⟨#[47]⟩) s).map (·.data.toList) = names s.data.toList := by
    rw [Lib.splitB_data]
    exact split_names s.data.toList
  refine Calls.mono h ?_
  rintro e w' ⟨rfl, rfl⟩
  have hc := Lib.countB_le ⟨#[47]⟩ (Nat.le_refl 1) s.size s (Nat.le_refl _)
  exact ⟨_, ⟨hn⟩, by rw [hl]; omega, by rw [hl], rfl⟩
attribute [local go_sem] cell_held frozen_held
theorem idx_c (W : World) (c : UInt8) : Calls Tryd.prog 86 #[.string ⟨#[97, 98, 99, 100, 101, 102, 103, 104, 105, 106, 107, 108, 109, 110, 111, 112, 113, 114, 115, 116, 117, 118, 119, 120, 121, 122, 48, 49, 50, 51, 52, 53, 54, 55, 56, 57, 95, 45, 126]⟩, .int .u8 (c.toNat : Int)] W fun e w' => e = .returned (.int .i64 (indexByte signsL c)) ∧ w' = W := by
  have h := Any.strings_IndexByte layIndexByte ⟨#[97, 98, 99, 100, 101, 102, 103, 104, 105, 106, 107, 108, 109, 110, 111, 112, 113, 114, 115, 116, 117, 118, 119, 120, 121, 122, 48, 49, 50, 51, 52, 53, 54, 55, 56, 57, 95, 45, 126]⟩ (c.toNat : Int) W
  have e : ((c.toNat : Int).toNat.toUInt8) = c := by simp
  rw [e] at h
  exact h
set_option maxRecDepth 100000 in
set_option maxHeartbeats 1000000 in
theorem plain_any (w : World) (s : ByteArray) (hs : s.size ≤ 65536) : Calls Tryd.prog 65 #[.string s] w fun e w' => e = .returned (.bool (plainL s.data.toList)) ∧ ∃ q, w' = w.drewN q := by
  obtain ⟨r, hr⟩ : ∃ r, plainL s.data.toList = r := ⟨_, rfl⟩
  have HR := Aside0.mk hr
  have HL : s.data.toList.length = s.size := by simp
  have HL := Aside0.mk HL
  rw [hr]
  clear hr
  go_enter Tryd.func65, Tryd.ntmps65
  go_wp2_with fail
  go_loopw [6] (fun i wr => ∃ k q : Nat, k ≤ s.size ∧ i = .int .i64 (k : Int) ∧ Aside0 ((s.data.toList.take k).all signB = true) ∧ Aside0 (wr = w.drewN q)) (fun i _ => s.size - (RowKit.intOf i).toNat)
  case atStart => exact ⟨0, 0, Nat.zero_le _, rfl, ⟨rfl⟩, ⟨rfl⟩⟩
  case round =>
    obtain ⟨k, q, hk, rfl, HA, HW⟩ := hrel
    have hw := HW.out
    subst hw
    clear HW
    by_cases hlt : k < s.size
    · have hsig := signs_index s[k]
      have hic := fun W => idx_c W s[k]
      have htk : Aside0 ((s.data.toList.take (k + 1)).all signB = signB s[k]) := ⟨by
        rw [List.take_succ_eq_append_getElem (by rw [HL.out]; exact hlt), List.all_append, HA.out]
        show (true && List.all [s[k]] signB) = _
        simp⟩
      cases hb : signB s[k] with
      | true =>
        rw [hb] at hsig htk
        have hz := of_decide_eq_false (show decide (indexByte signsL s[k] < 0) = false from hsig)
        generalize indexByte signsL s[k] = z at hic hz
        have HIC := Aside0.mk hic
        clear hic hsig hb
        go_wp2_with fail
        refine (HIC.out _).mono ?_
        rintro e w1 ⟨rfl, rfl⟩
        go_wp2_with fail
        go_roundw
        case rel => exact ⟨k + 1, _, by omega, by go_num, htk, ⟨rfl⟩⟩
        case measure => simp [RowKit.intOf]; omega
      | false =>
        rw [hb] at hsig htk
        have hz := of_decide_eq_true (show decide (indexByte signsL s[k] < 0) = true from hsig)
        generalize indexByte signsL s[k] = z at hic hz
        have HIC := Aside0.mk hic
        clear hic hsig hb
        go_wp2_with fail
        refine (HIC.out _).mono ?_
        rintro e w1 ⟨rfl, rfl⟩
        go_wp2_with fail
        go_ret
        refine ⟨?_, _, rfl⟩
        have h1 : s.data.toList.all signB = false := by
          rw [← List.take_append_drop (k + 1) s.data.toList, List.all_append, htk.out, Bool.false_and]
        have h2 : r = false := by rw [← HR.out]; unfold plainL; rw [h1]; rfl
        rw [h2]
        rfl
    · obtain rfl : k = s.size := by omega
      have h1 := HA.out
      rw [List.take_of_length_le (by rw [HL.out]; exact Nat.le_refl _)] at h1
      have hr2 := HR.out
      unfold plainL at hr2
      rw [h1, Bool.true_and] at hr2
      have HR2 := Aside0.mk hr2
      clear h1 hr2
      go_wp2_with fail
      go_ret
      refine ⟨?_, _, rfl⟩
      rw [← HR2.out]
      show Ending.returned _ = _
      simp [ByteArray.toList_eq]
theorem cut_len (l m : List UInt8) : (cut l m).1.length ≤ l.length ∧ (cut l m).2.1.length ≤ l.length := by
  unfold cut
  split
  · exact ⟨by rw [List.length_take]; omega, by rw [List.length_drop]; omega⟩
  · exact ⟨Nat.le_refl _, Nat.zero_le _⟩
theorem bsize (l : List UInt8) : (⟨l.toArray⟩ : ByteArray).size = l.length := rfl
set_option maxRecDepth 100000 in
set_option maxHeartbeats 1000000 in
theorem kind_any (w : World) (s : ByteArray) (hs : s.size ≤ 65536) : Calls Tryd.prog 50 #[.string s] w fun e w' => e = .returned (.int .i64 (kindL s.data.toList)) ∧ ∃ q, w' = w.drewN q := by
  have hcut := fun W => cut_one layCut s 46 W (by omega)
  have hcl := cut_len s.data.toList [46]
  have hsl : s.data.toList.length = s.size := by simp
  obtain ⟨r, hr⟩ : ∃ r, kindL s.data.toList = r := ⟨_, rfl⟩
  rw [hr]
  unfold kindL at hr
  rw [hsl] at hr hcl
  obtain ⟨a, b, d, hc⟩ : ∃ a b d, cut s.data.toList [46] = (a, b, d) := ⟨_, _, _, rfl⟩
  rw [hc] at hr hcl
  simp only [hc] at hcut
  dsimp only at hr hcl hcut
  have hpa := fun W => plain_any W ⟨a.toArray⟩ (by rw [bsize]; omega)
  have hpb := fun W => plain_any W ⟨b.toArray⟩ (by rw [bsize]; omega)
  have ea : (⟨a.toArray⟩ : ByteArray).data.toList = a := rfl
  have eb : (⟨b.toArray⟩ : ByteArray).data.toList = b := rfl
  rw [ea] at hpa
  rw [eb] at hpb
  change ∀ W, Calls Tryd.prog 64 _ W _ at hcut
  have HC := Aside0.mk hcut
  have HPA := Aside0.mk hpa
  have HPB := Aside0.mk hpb
  clear hcut hpa hpb hc hcl ea eb hsl
  by_cases h24 : 24 < s.size
  · rw [if_pos h24] at hr
    subst hr
    have hd : decide (24 < (s.size : Int)) = true := decide_eq_true (by omega)
    clear h24
    go_enter Tryd.func50, Tryd.ntmps50
    go_wp2_with fail
    refine (HC.out _).mono ?_
    rintro e w1 ⟨rfl, n1, rfl⟩
    go_wp2_with fail
    go_ret
    exact ⟨rfl, _, rfl⟩
  · rw [if_neg h24] at hr
    have hd : decide (24 < (s.size : Int)) = false := decide_eq_false (by omega)
    clear h24
    cases hpl : plainL a with
    | false =>
      rw [if_pos hpl] at hr
      have HPA := HPA.out
      rw [hpl] at HPA
      have HPA := Aside0.mk HPA
      clear hpl
      subst hr
      go_enter Tryd.func50, Tryd.ntmps50
      go_wp2_with fail
      refine (HC.out _).mono ?_
      rintro e w1 ⟨rfl, n1, rfl⟩
      go_wp2_with fail
      refine (HPA.out _).mono ?_
      rintro e w1 ⟨rfl, n2, rfl⟩
      go_wp2_with fail
      go_ret
      exact ⟨rfl, _, rfl⟩
    | true =>
      rw [if_neg (by rw [hpl]; decide)] at hr
      have HPA := HPA.out
      rw [hpl] at HPA
      have HPA := Aside0.mk HPA
      clear hpl
      cases d with
      | false =>
        rw [if_pos rfl] at hr
        subst hr
        go_enter Tryd.func50, Tryd.ntmps50
        go_wp2_with fail
        refine (HC.out _).mono ?_
        rintro e w1 ⟨rfl, n1, rfl⟩
        go_wp2_with fail
        refine (HPA.out _).mono ?_
        rintro e w1 ⟨rfl, n2, rfl⟩
        go_wp2_with fail
        go_ret
        exact ⟨rfl, _, rfl⟩
      | true =>
        rw [if_neg (by decide)] at hr
        cases hpl2 : plainL b with
        | true =>
          rw [if_pos hpl2] at hr
          subst hr
          have HPB := HPB.out
          rw [hpl2] at HPB
          have HPB := Aside0.mk HPB
          clear hpl2
          go_enter Tryd.func50, Tryd.ntmps50
          go_wp2_with fail
          refine (HC.out _).mono ?_
          rintro e w1 ⟨rfl, n1, rfl⟩
          go_wp2_with fail
          refine (HPA.out _).mono ?_
          rintro e w1 ⟨rfl, n2, rfl⟩
          go_wp2_with fail
          refine (HPB.out _).mono ?_
          rintro e w1 ⟨rfl, n3, rfl⟩
          go_wp2_with fail
          go_ret
          exact ⟨rfl, _, rfl⟩
        | false =>
          rw [if_neg (by rw [hpl2]; decide)] at hr
          subst hr
          have HPB := HPB.out
          rw [hpl2] at HPB
          have HPB := Aside0.mk HPB
          clear hpl2
          go_enter Tryd.func50, Tryd.ntmps50
          go_wp2_with fail
          refine (HC.out _).mono ?_
          rintro e w1 ⟨rfl, n1, rfl⟩
          go_wp2_with fail
          refine (HPA.out _).mono ?_
          rintro e w1 ⟨rfl, n2, rfl⟩
          go_wp2_with fail
          refine (HPB.out _).mono ?_
          rintro e w1 ⟨rfl, n3, rfl⟩
          go_wp2_with fail
          go_ret
          exact ⟨rfl, _, rfl⟩
theorem names_size (l : List UInt8) : ∀ n ∈ names l, n.length ≤ l.length := by
  induction l with
  | nil => intro n hn; simp [names] at hn; simp [hn]
  | cons c l ih =>
    intro n hn
    unfold names at hn
    split at hn
    · rcases List.mem_cons.1 hn with e | hn
      · rw [e]; exact Nat.zero_le _
      · exact Nat.le_succ_of_le (ih n hn)
    · split at hn
      · rename_i he
        exact absurd he (names_ne l)
      · rename_i m ms he
        rcases List.mem_cons.1 hn with e | hn
        · rw [e, List.length_cons, List.length_cons]
          exact Nat.succ_le_succ (ih m (by rw [he]; exact List.mem_cons_self))
        · exact Nat.le_succ_of_le (ih n (by rw [he]; exact List.mem_cons_of_mem _ hn))
theorem size_zero_list (p : ByteArray) : p.toList = [] ↔ p.size = 0 := by
  rw [ByteArray.toList_eq]
  exact ⟨fun h => by have : p.data.toList.length = 0 := by rw [h]; rfl
                     simpa using this, fun h => List.eq_nil_of_length_eq_zero (by simpa using h)⟩
set_option maxRecDepth 100000 in
set_option maxHeartbeats 2000000 in
theorem Kind_any (w : World) (p : ByteArray) (hp : p.size ≤ 65536) : Calls Tryd.prog 34 #[.string p] w fun e w' => e = .returned (.tuple #[.int .i64 (kindS p).1, .int .i64 (kindS p).2]) ∧ Below w.heap.size w w' := by
  obtain ⟨r1, r2, hr⟩ : ∃ a b, kindS p = (a, b) := ⟨_, _, rfl⟩
  rw [hr]
  unfold kindS at hr
  dsimp only
  by_cases h96 : 96 < p.size
  · rw [if_pos h96] at hr
    cases hr
    have hd : decide (96 < (p.size : Int)) = true := decide_eq_true (by omega)
    clear h96
    go_enter Tryd.func34, Tryd.ntmps34
    go_wp2_with fail
    go_ret2
    exact ⟨rfl, bel _ _⟩
  · rw [if_neg h96] at hr
    have hd : decide (96 < (p.size : Int)) = false := decide_eq_false (by omega)
    clear h96
    by_cases h0 : p.size = 0
    · rw [if_pos h0] at hr
      cases hr
      have hz := (size_zero_list p).2 h0
      have hz1 : (p.toList == []) = true := by rw [hz]; rfl
      clear h0 hz
      go_enter Tryd.func34, Tryd.ntmps34
      go_wp2_with fail
      go_ret2
      exact ⟨rfl, bel _ _⟩
    · rw [if_neg h0] at hr
      have hz1 : (p.toList == []) = false := beq_eq_false_iff_ne.mpr (fun e => h0 ((size_zero_list p).1 e))
      have hs := fun W => split_c W p (by omega)
      have hns := names_size p.data.toList
      have hpl : p.data.toList.length = p.size := by simp
      rw [hpl] at hns
      have HS := Aside0.mk hs
      have HR := Aside0.mk hr
      have HN := Aside0.mk hns
      have HP := Aside0.mk hp
      clear h0 hs hr hns hpl hp
      go_enter Tryd.func34, Tryd.ntmps34
      go_wp2_with fail
      refine (HS.out _).mono ?_
      rintro e w1 ⟨l, hl, nl, rfl, rfl⟩
      have HK : ∀ x ∈ l, x.size ≤ 65536 := fun x hx => by
        have h1 := HN.out x.data.toList (by rw [← hl.out]; exact List.mem_map_of_mem hx)
        have h2 := HP.out
        have h3 : x.data.toList.length = x.size := by simp
        omega
      have HK := Aside0.mk HK
      have hr := HR.out
      rw [← hl.out, List.length_map] at hr
      have HR := Aside0.mk hr
      clear hl hr
      go_wp2_with fail
      go_loopw [5, 19] (fun s i wr => ∃ (k q : Nat) (last : Int), k ≤ l.length ∧ s = .int .i64 last ∧ i = .int .i64 (k : Int) ∧ Aside0 (kindsL ((l.drop k).map (·.data.toList)) last = kindsL (l.map (·.data.toList)) 0) ∧ Aside0 (wr = (w.alloc (.cells (l.map Value.string).toArray 9)).drewN q)) (fun _ i _ => l.length - (RowKit.intOf i).toNat)
      case atStart => exact ⟨0, 0, 0, Nat.zero_le _, rfl, rfl, ⟨rfl⟩, ⟨rfl⟩⟩
      case round =>
        obtain ⟨k, q, last, hk, rfl, rfl, HA, HW⟩ := hrel
        have hw := HW.out
        subst hw
        clear HW
        by_cases hlt : k < l.length
        · have hA := HA.out
          rw [List.drop_eq_getElem_cons hlt, List.map_cons, kindsL] at hA
          have hki := fun W => kind_any W l[k] (HK.out _ (List.getElem_mem hlt))
          have hcs := kindL_cases l[k].data.toList
          generalize kindL l[k].data.toList = kk at hA hki hcs
          have HKI := Aside0.mk hki
          clear hki HA
          rcases hcs with rfl | rfl | rfl
          · rw [if_pos rfl] at hA
            have hR := HR.out
            rw [← hA] at hR
            cases hR
            clear hA
            go_wp2_with fail
            refine (HKI.out _).mono ?_
            rintro e w1 ⟨rfl, n1, rfl⟩
            go_wp2_with fail
            go_ret2
            exact ⟨rfl, bel _ _⟩
          · rw [if_neg (by decide), if_neg (fun h => absurd h.1 (by decide))] at hA
            have HA := Aside0.mk hA
            clear hA
            go_wp2_with fail
            refine (HKI.out _).mono ?_
            rintro e w1 ⟨rfl, n1, rfl⟩
            go_wp2_with fail
            go_roundw
            case rel => exact ⟨k + 1, _, 1, by omega, rfl, by go_num, HA, ⟨rfl⟩⟩
            case measure => simp [RowKit.intOf]; omega
          · rw [if_neg (by decide)] at hA
            by_cases hlast : k + 1 < l.length
            · rw [if_pos ⟨rfl, by simp; omega⟩] at hA
              have hR := HR.out
              rw [← hA] at hR
              cases hR
              clear hA
              have hd2 : decide ((k : Int) < (l.length : Int) - 1) = true := decide_eq_true (by omega)
              go_wp2_with fail
              refine (HKI.out _).mono ?_
              rintro e w1 ⟨rfl, n1, rfl⟩
              go_wp2_with fail
              go_ret2
              exact ⟨rfl, bel _ _⟩
            · rw [if_neg (by simp; omega)] at hA
              have HA := Aside0.mk hA
              clear hA
              have hd2 : decide ((k : Int) < (l.length : Int) - 1) = false := decide_eq_false (by omega)
              go_wp2_with fail
              refine (HKI.out _).mono ?_
              rintro e w1 ⟨rfl, n1, rfl⟩
              go_wp2_with fail
              go_roundw
              case rel => exact ⟨k + 1, _, 2, by omega, rfl, by go_num, HA, ⟨rfl⟩⟩
              case measure => simp [RowKit.intOf]; omega
        · have hA := HA.out
          rw [List.drop_of_length_le (by omega)] at hA
          have hR := HR.out
          rw [← hA] at hR
          simp only [List.map_nil, kindsL] at hR
          clear hA HA HR
          by_cases h8 : 8 < l.length
          · rw [if_pos h8] at hR
            cases hR
            have hd2 : decide (8 < (l.length : Int)) = true := decide_eq_true (by omega)
            go_wp2_with fail
            go_ret2
            exact ⟨rfl, bel _ _⟩
          · rw [if_neg h8] at hR
            cases hR
            have hd2 : decide (8 < (l.length : Int)) = false := decide_eq_false (by omega)
            go_wp2_with fail
            go_ret2
            exact ⟨rfl, bel _ _⟩
/-- Is a text a path? -/
def isP (p : ByteArray) : Bool := (kindS p).2 == 0
set_option maxHeartbeats 1000000 in
theorem is_any (w : World) (p : ByteArray) (hp : p.size ≤ 65536) : Calls Tryd.prog 96 #[.string p, .int .i64 0] w fun e w' => e = .returned (.bool (isP p)) ∧ Below w.heap.size w w' := by
  have hk := fun W => Kind_any W p hp
  unfold isP
  generalize kindS p = r at hk
  obtain ⟨a, b⟩ := r
  dsimp only at hk ⊢
  by_cases h0 : b = 0
  · subst h0
    have HK := Aside0.mk hk
    clear hk
    go_enter Tryd.func96, Tryd.ntmps96
    go_wp2_with fail
    refine (HK.out _).mono ?_
    rintro e w1 ⟨rfl, hb⟩
    go_wp2_with fail
    go_ret
    exact ⟨rfl, hb⟩
  · have h1 : (b == 0) = false := beq_eq_false_iff_ne.mpr h0
    rw [h1]
    have HK := Aside0.mk hk
    clear hk h0
    go_enter Tryd.func96, Tryd.ntmps96
    go_wp2_with fail
    refine (HK.out _).mono ?_
    rintro e w1 ⟨rfl, hb⟩
    go_wp2_with fail
    go_ret
    exact ⟨rfl, hb⟩
def path_Kind.f (p : ByteArray) : Option (Int × Int) := if p.size ≤ 65536 then some (kindS p) else none
theorem path_Kind.calls (a0 : ByteArray) (r1 : Int) (r2 : Int) (w : World) (h : path_Kind.f a0 = some (r1, r2)) :
    Calls Tryd.prog 34 #[.string a0] w fun e w' => e = .returned (.tuple #[.int .i64 r1, .int .i64 r2]) ∧ Below w.heap.size w w' := by
  unfold path_Kind.f at h
  split at h
  · rename_i hs
    injection h with h
    have k := Kind_any w a0 hs
    rw [h] at k
    exact k
  · simp at h
attribute [local go_sem] max2_int max_two
/-- The text ahead of the last / (of a text that has none: nothing). -/
def parB (p : ByteArray) : ByteArray := p.extract 0 (max (lastIndexByte p 47) 0).toNat
def parS (p : ByteArray) : ByteArray × Bool := if p.size = 0 ∨ isP p = false then (⟨#[]⟩, false) else (parB p, true)
theorem last_le (p : ByteArray) : -1 ≤ lastIndexByte p 47 ∧ lastIndexByte p 47 ≤ (p.size : Int) := by
  unfold lastIndexByte
  rcases lastIdx_spec p 47 p.size with ⟨e, _⟩ | ⟨i, hi, e, _, _⟩
  · rw [e]; omega
  · rw [e]; omega
set_option maxHeartbeats 1000000 in
theorem Parent_any (w : World) (p : ByteArray) (hp : p.size ≤ 65536) : Calls Tryd.prog 84 #[.string p] w fun e w' => e = .returned (.tuple #[.string (parS p).1, .bool (parS p).2]) ∧ Below w.heap.size w w' := by
  unfold parS
  have his := fun W => is_any W p hp
  have hle := last_le p
  have hli := fun W => Any.strings_LastIndexByte layLastIdx p 47 (by omega) W
  change ∀ W, Calls Tryd.prog 97 _ W _ at hli
  by_cases h0 : p.size = 0
  · rw [if_pos (.inl h0)]
    have hz := (size_zero_list p).2 h0
    have hz1 : (p.toList == []) = true := by rw [hz]; rfl
    clear h0 hz his hli
    go_enter Tryd.func84, Tryd.ntmps84
    go_wp2_with fail
    go_ret2
    exact ⟨rfl, bel _ _⟩
  · have hz1 : (p.toList == []) = false := beq_eq_false_iff_ne.mpr (fun e => h0 ((size_zero_list p).1 e))
    cases hb : isP p with
    | false =>
      rw [if_pos (.inr rfl)]
      rw [hb] at his
      have HI := Aside0.mk his
      clear his hli hb h0
      go_enter Tryd.func84, Tryd.ntmps84
      go_wp2_with fail
      refine (HI.out _).mono ?_
      rintro e w1 ⟨rfl, hb⟩
      go_wp2_with fail
      go_ret2
      exact ⟨rfl, hb⟩
    | true =>
      rw [if_neg (fun h => h.elim h0 (fun e => by cases e))]
      rw [hb] at his
      unfold parB
      generalize lastIndexByte p 47 = z at hle hli
      have HI := Aside0.mk his
      have HL := Aside0.mk hli
      have hle1 := hle.1
      have hle2 := hle.2
      clear his hli hb h0 hle
      by_cases hz : z < 0
      · rw [show max z 0 = 0 by omega, show p.extract 0 (Int.toNat 0) = ByteArray.empty by simp]
        have hp0 : (0 : Int) ≤ p.size := by omega
        go_enter Tryd.func84, Tryd.ntmps84
        go_wp2_with fail
        refine (HI.out _).mono ?_
        rintro e w1 ⟨rfl, hb⟩
        go_wp2_with fail
        refine (HL.out _).mono ?_
        rintro e w2 ⟨rfl, rfl⟩
        go_wp2_with fail
        go_ret2
        exact ⟨rfl, hb⟩
      · rw [show max z 0 = z by omega]
        have hz' : 0 ≤ z := by omega
        go_enter Tryd.func84, Tryd.ntmps84
        go_wp2_with fail
        refine (HI.out _).mono ?_
        rintro e w1 ⟨rfl, hb⟩
        go_wp2_with fail
        refine (HL.out _).mono ?_
        rintro e w2 ⟨rfl, rfl⟩
        go_wp2_with fail
        go_ret2
        exact ⟨rfl, hb⟩
end Go.Proofs.YtkflalaocnghcaaDoor.Q

namespace Go.Proofs.YtkflalaocnghcaaDoor.Q
open Go Go.Proofs Go.Shelf Go.RowKit Go.Lib Go.Sort Go.Proofs.YtkflalaocnghcaaDoorP Go.Proofs.YtkflalaocnghcaaDoorK Go.Proofs.YtkflalaocnghcaaDoorW.PrintWords Go.Proofs.YtkflalaocnghcaaDoorW.PrintLast Go.Proofs.YtkflalaocnghcaaDoorW.PrintMore
attribute [local go_sem] Oper.semAt_some
set_option linter.unusedSimpArgs false
set_option linter.unusedVariables false
/-! ### path.Ups, path.Below -/
def upsN : Nat → ByteArray → List ByteArray
  | 0, _ => []
  | n + 1, p => if (parS p).2 = true then (parS p).1 :: upsN n (parS p).1 else []
/-- All directories that a path lies in. -/
def ups (p : ByteArray) : List ByteArray := upsN (p.size + 1) p
theorem parS_size {p : ByteArray} (h : (parS p).2 = true) : (parS p).1.size < p.size := by
  unfold parS at h ⊢
  split at h
  · cases h
  · rename_i hc
    rw [if_neg hc]
    have h0 : p.size ≠ 0 := fun e => hc (.inl e)
    have hl := last_le p
    show (parB p).size < p.size
    unfold parB
    rw [ByteArray.size_extract]
    unfold lastIndexByte
    rcases lastIdx_spec p 47 p.size with ⟨e, _⟩ | ⟨i, hi, e, _, _⟩
    · rw [e]; omega
    · rw [e]; omega
theorem upsN_more (n : Nat) : ∀ (m : Nat) (p : ByteArray), p.size < n → p.size < m → upsN n p = upsN m p := by
  induction n with
  | zero => intro m p h; omega
  | succ n ih =>
    intro m p h1 h2
    cases m with
    | zero => omega
    | succ m =>
      unfold upsN
      split
      · rename_i h
        have := parS_size h
        rw [ih m (parS p).1 (by omega) (by omega)]
      · rfl
theorem ups_eq (p : ByteArray) : ups p = if (parS p).2 = true then (parS p).1 :: ups (parS p).1 else [] := by
  unfold ups
  rw [upsN]
  split
  · rename_i h
    have := parS_size h
    rw [upsN_more p.size ((parS p).1.size + 1) _ this (by omega)]
  · rfl
/-- What is still to be told, behind (up, ok). -/
def restU (up : ByteArray) (ok : Bool) : List ByteArray := if ok = true then up :: ups up else []
theorem ups_rest (p : ByteArray) : ups p = restU (parS p).1 (parS p).2 := ups_eq p
def szOf : Value → Nat
  | .string s => s.size
  | _ => 0
def okOf : Value → Nat
  | .bool true => 1
  | _ => 0
theorem ups_in (F : Fence) (n : Nat) (hf : F.fn 63) (hro : F.round = none) (p : ByteArray) (w : World) :
    CallsIn F n Tryd.prog 63 #[.string p] w fun e w' => e = .returned (.func (.func 83) #[] #[.pointer (some ⟨w.heap.size, 0, none⟩)]) ∧ w' = w.alloc (.cells #[.string p] 9) := by
  refine callsIn_of_wp Tryd.func63 rfl hf ?_ hro
  simp only [Tryd.ntmps63, List.size_toArray, List.length_cons, List.length_nil, Nat.reduceAdd, Nat.reduceSub, Array.replicate_succ, Array.replicate_zero, List.push_toArray, List.append_toArray, List.nil_append, List.cons_append]
  gi_wp2
  go_ret
  exact ⟨rfl, rfl⟩
set_option maxRecDepth 100000 in
set_option maxHeartbeats 4000000 in
theorem ups1_in (n : Nat) (hn : 1 ≤ n) (l B : Nat) (p : ByteArray) (hp : p.size ≤ 65536) (J Jx : List ByteArray → World → Prop)
    (hY : ∀ pre x W, J pre W → pre.length < (ups p).length → YieldAt Fence.wide (n - 1) Tryd.prog l #[.string x] W fun e W' =>
      (e = .returned (.bool true) ∧ J (pre ++ [x]) W' ∧ True) ∨ (e = .returned (.bool false) ∧ Jx (pre ++ [x]) W'))
    (W : World) (b1 : Boxed W B 9 (.string p)) (hJ : AbidesFrom W.heap.size J) (h0 : J [] W) :
    CallsIn Fence.wide n Tryd.prog 83 #[.func (.yield l) #[] #[], .pointer (some ⟨B, 0, none⟩)] W fun e W' => (∃ v, e = .returned v) ∧
      ((∃ ys, ys = ups p ∧ J ys W') ∨ (∃ pre, pre <+: ups p ∧ Jx pre W')) := by
  have c1 := b1.cell
  have hja : ∀ s X Y, J s X → Below X.heap.size X Y → J s Y := fun s X Y h hb => hJ s X Y none h ⟨hb.os, hb.tape, hb.output, hb.size, fun k hk _ => hb.block k hk⟩ (fun r e => by cases e)
  have HJA := Aside0.mk hja
  have HY := Aside0.mk hY
  clear hja hJ hY
  have hpar := fun W q (hq : q.size ≤ 65536) => (callsIn_wide (n := n - 1)).2 (Parent_any W q hq)
  have HPAR := Aside0.mk hpar
  have HP := Aside0.mk hp
  clear hpar hp
  refine callsIn_of_wp Tryd.func83 rfl trivial ?_ rfl
  simp only [Tryd.ntmps83, List.size_toArray, List.length_cons, List.length_nil, Nat.reduceAdd, Nat.reduceSub, Array.replicate_succ, Array.replicate_zero, List.push_toArray, List.append_toArray, List.nil_append, List.cons_append]
  gi_wp2_with fail
  refine ⟨trivial, (HPAR.out _ _ HP.out).mono ?_⟩
  rintro e W1 ⟨rfl, hb1⟩
  have h1 := HJA.out _ _ _ h0 hb1
  clear h0
  have hsz : (parS p).2 = true → (parS p).1.size ≤ 65536 := fun h => by have := parS_size h; have := HP.out; omega
  have HU := Aside0.mk (ups_rest p)
  generalize parS p = r at HU hsz
  obtain ⟨up, ok⟩ := r
  dsimp only at HU hsz
  have HSZ := Aside0.mk hsz
  clear hsz hb1 c1
  gi_wp2_with fail
  gi_loopw [3, 4] (fun u o wr => ∃ pre up ok, u = .string up ∧ o = .bool ok ∧ J pre wr ∧ Aside0 (ups p = pre ++ restU up ok) ∧ Aside0 (ok = true → up.size ≤ 65536)) (fun u o _ => okOf o * (szOf u + 1))
  case atStart => exact ⟨[], up, ok, rfl, rfl, h1, HU, HSZ⟩
  case round =>
    clear HU HSZ h1
    obtain ⟨pre, up, ok, rfl, rfl, hJs, HU, HSZ⟩ := hrel
    cases ok with
    | true =>
      have hu := HU.out
      unfold restU at hu
      rw [if_pos rfl] at hu
      have hlen : pre.length < (ups p).length := by rw [hu, List.length_append, List.length_cons]; omega
      obtain ⟨fn, tmps, assign, body, hy, hR⟩ := HY.out _ up _ hJs hlen
      have hpre : pre ++ [up] <+: ups p := ⟨ups up, by rw [hu]; simp⟩
      have HPRE := Aside0.mk hpre
      have hu2 : ups p = (pre ++ [up]) ++ restU (parS up).1 (parS up).2 := by rw [hu, ups_rest up]; simp
      have hsz2 : (parS up).2 = true → (parS up).1.size < up.size := parS_size
      have hups := HSZ.out rfl
      have HPU := Aside0.mk (HPAR.out · up hups)
      generalize parS up = r at hu2 hsz2 HPU
      obtain ⟨up2, ok2⟩ := r
      dsimp only at hu2 hsz2 HPU
      have HU2 := Aside0.mk hu2
      have HZ2 := Aside0.mk hsz2
      have HUP := Aside0.mk hups
      clear hu hu2 HU hlen hpre hsz2 HSZ hups
      gi_wp2_with fail
      refine hR.mono ?_
      rintro e W3 (⟨rfl, hJ3, _⟩ | ⟨rfl, hJx3⟩)
      · gi_wp2_with fail
        refine ⟨trivial, (HPU.out _).mono ?_⟩
        rintro e W4 ⟨rfl, hb4⟩
        have hJ4 := HJA.out _ _ _ hJ3 hb4
        clear hb4
        gi_wp2_with fail
        go_roundw
        case rel => exact ⟨pre ++ [up], up2, ok2, rfl, rfl, hJ4, HU2, ⟨fun h => by have := HZ2.out h; have := HUP.out; omega⟩⟩
        case measure =>
          cases ok2 with
          | true => have := HZ2.out rfl; simp [okOf, szOf]; omega
          | false => simp [okOf, szOf]
      · gi_wp2_with fail
        refine bodyPost_ret (results_none rfl _ _ _) rfl ?_
        exact ⟨⟨_, rfl⟩, .inr ⟨_, HPRE.out, hJx3⟩⟩
    | false =>
      have hu := HU.out
      unfold restU at hu
      rw [if_neg (by decide), List.append_nil] at hu
      have HU := Aside0.mk hu
      clear hu
      gi_wp2_with fail
      go_end0
      exact ⟨⟨_, rfl⟩, .inl ⟨_, rfl, by rw [HU.out]; exact hJs⟩⟩
theorem ups_stops (n : Nat) (hn : 1 ≤ n) (B : Nat) (p : ByteArray) (hp : p.size ≤ 65536) (w1 : World) (b1 : Boxed w1 B 9 (.string p)) :
    SeqStopsK Fence.wide n Tryd.prog 83 #[.pointer (some ⟨B, 0, none⟩)] (fun x : ByteArray => #[.string x]) (fun _ _ => True) (fun ys => ys = ups p) (fun pre => pre <+: ups p) (ups p).length w1 := fun l J Jx W hW hJ hJx hY h0 =>
  ups1_in n hn l B p hp J Jx hY W ((hW.block _ b1.lt).trans b1) hJ h0
/-- Does a path lie in a directory? -/
def belowS (d p : ByteArray) : Bool := (ups p).any fun u => u.toList == d.toList
set_option maxRecDepth 100000 in
set_option maxHeartbeats 4000000 in
theorem below_in (n : Nat) (hn : 5 ≤ n) (d p : ByteArray) (hp : p.size ≤ 65536) (w : World) :
    CallsIn Fence.wide n Tryd.prog 49 #[.string d, .string p] w fun e W' => e = .returned (.bool (belowS d p)) ∧ Below w.heap.size w W' := by
  have h1 : 1 ≤ n := by omega
  have hro : Fence.wide.round = none := rfl
  refine callsIn_of_wp_marks Tryd.func49 rfl trivial ?_ hro
  simp only [Tryd.ntmps49, List.size_toArray, List.length_cons, List.length_nil, Nat.reduceAdd, Nat.reduceSub, Array.replicate_succ, Array.replicate_zero, List.push_toArray, List.append_toArray, List.nil_append, List.cons_append]
  gi_wp2_with fail
  refine ⟨trivial, (ups_in Fence.wide (n - 1) trivial hro _ _).mono ?_⟩
  rintro e w' ⟨rfl, rfl⟩
  gi_wp2_with fail
  obtain ⟨Z, hZ⟩ : ∃ Z, Z = (w.alloc (.cells #[.string d] 9)).alloc (.cells #[.bool false] 4) := ⟨_, rfl⟩
  have bR := (Boxed.new w 9 (.string d)).alloc (.cells #[.bool false] 4)
  have bQ := Boxed.new (w.alloc (.cells #[.string d] 9)) 4 (.bool false)
  have hB0 : Below w.heap.size w Z := by rw [hZ]; exact ((Below.refl _ w).alloc (Nat.le_refl _) _).alloc (by simp) _
  have hsz : Z.heap.size = w.heap.size + 1 + 1 := by rw [hZ]; simp
  rw [World.size_alloc] at bQ
  rw [← hZ] at bR bQ ⊢
  clear hZ
  have b1 := Boxed.new Z 9 (.string p)
  rw [hsz] at b1
  replace hB0 := hB0.alloc (by omega) (.cells #[.string p] 9)
  replace bR := bR.alloc (.cells #[.string p] 9)
  replace bQ := bQ.alloc (.cells #[.string p] 9)
  have hszW : (Z.alloc (.cells #[.string p] 9)).heap.size = w.heap.size + 3 := by simp; omega
  obtain ⟨W0, hW0⟩ : ∃ W0, Z.alloc (.cells #[.string p] 9) = W0 := ⟨_, rfl⟩
  rw [hW0] at b1 bR bQ hB0 hszW ⊢
  clear hW0
  refine wpIn_rangeFunc_ownH hro h1 (gf := 83) (lb := #[.pointer (some ⟨(w.heap.size + 1 + 1), 0, none⟩)]) rfl trivial (enters_of Tryd.func83 (by kernel_rfl) rfl)
    (ups_stops (n - 1) (by omega) (w.heap.size + 1 + 1) p hp W0 b1) (fun _ _ => trivial) (fun _ _ _ _ _ _ _ _ => trivial) (Below.refl _ _) (fun _ => rfl)
    (fun pre W => ((pre.any (fun u => u.toList == d.toList) = false ∧ Boxed W w.heap.size 9 (.string d)) ∧ Boxed W (w.heap.size + 1) 4 (.bool false)) ∧ Below w.heap.size w W)
    (fun c pre W => ((c = .ret ∧ pre.any (fun u => u.toList == d.toList) = true) ∧ Boxed W (w.heap.size + 1) 4 (.bool true)) ∧ Below w.heap.size w W)
    (OwnFrom.and (OwnFrom.and (OwnFrom.and (ownFrom_pure _ _) (Own.from (boxed_own _ _ _) _)) (Own.from (boxed_own _ _ _) _)) (ownFrom_below (Nat.le_refl _) (by omega)))
    (fun c => OwnFrom.and (OwnFrom.and (ownFrom_pure _ _) (Own.from (boxed_own _ _ _) _)) (ownFrom_below (Nat.le_refl _) (by omega)))
    ⟨⟨⟨rfl, bR⟩, bQ⟩, hB0⟩
    (fun x a' W => a' = { tmps := #[.string d, .string p, .pointer (some ⟨w.heap.size, 0, none⟩), undef, .pointer (some ⟨w.heap.size + 1, 0, none⟩), .string x, .string p, .func (.func 83) #[] #[.pointer (some ⟨(w.heap.size + 1 + 1), 0, none⟩)], .string x, undef, undef, undef], defers := [] })
    (fun x a' _ X Y row hs hg hr => hs)
    ?assign ?body ?done ?stop
  case assign =>
    rintro l pre x W K ⟨⟨⟨hpre, bR1⟩, bB1⟩, hB1⟩ hK
    simp only at hK ⊢
    gi_wp2
    exact hK _ _ ((KeepsOthers.refl _).from _) trivial ⟨⟨⟨hpre, bR1⟩, bB1⟩, hB1⟩ rfl
  case body =>
    rintro l pre x a' W hl ⟨r, hr⟩ ⟨⟨⟨hpre, bR1⟩, bB1⟩, hB1⟩ rfl hlt
    have cR := bR1.cell
    have fR := bR1.frozen
    have cB := bB1.cell
    have fB := bB1.frozen
    cases hx : (x.toList == d.toList) with
    | true =>
      have HX : Aside0 ((pre ++ [x]).any (fun u => u.toList == d.toList) = true) := ⟨by simp [hx]⟩
      clear hpre
      gi_wp2
      exact ⟨(KeepsOthers.setCell _ _ _).from _, ⟨⟨by first | rfl | trivial, HX.out⟩, bB1.set _⟩, hB1.setCell (p := ⟨w.heap.size + 1, 0, none⟩) (by simp) _⟩
    | false =>
      have HX : Aside0 ((pre ++ [x]).any (fun u => u.toList == d.toList) = false) := ⟨by rw [List.any_append, hpre]; simp [hx]⟩
      clear hpre
      gi_wp2
      exact ⟨((KeepsOthers.refl _).from _), trivial, ⟨⟨HX.out, bR1⟩, bB1⟩, hB1⟩
  case done =>
    rintro D zs W hD rfl ⟨⟨⟨hp, bR1⟩, bB1⟩, hB1⟩ hK
    have HP := Aside0.mk hp
    clear hp
    have cB := bB1.cell
    have fB := bB1.frozen
    gi_wp2
    have hK' := (KeepsOthers.setCell W ⟨w.heap.size + 1, 0, none⟩ (.bool false)).same D _ hK rfl
    refine ⟨by simp, .inl ⟨_, _, rfl, run_takeDeferred hK', ?_⟩⟩
    have hc5 := cell_kept (bB1.set (.bool false)).cell (grownBy_putObj' _ D (.deferred none)) (fun r e => by cases e; exact ⟨_, hK', rfl⟩)
    refine ⟨.bool false, ?_, by unfold belowS; rw [HP.out], (hB1.setCell (p := ⟨w.heap.size + 1, 0, none⟩) (by simp) _).trans (belowK_b (w := w) (Nat.le_refl _) _ D _ _ (by omega) hK' rfl rfl)⟩
    simp [results, Tryd.f49, go_sem, hc5]
  case stop =>
    rintro D c pre W hD hpre ⟨⟨⟨rfl, hne⟩, bB1⟩, hB1⟩ hK
    have HP := Aside0.mk hne
    clear hne
    gi_wp2
    refine ⟨by simp, .inl ⟨_, _, rfl, run_takeDeferred hK, ?_⟩⟩
    have hc5 := cell_kept bB1.cell (grownBy_putObj' _ D (.deferred none)) (fun r e => by cases e; exact ⟨_, hK, rfl⟩)
    refine ⟨.bool true, ?_, ?_, hB1.trans (belowK_b (w := w) (Nat.le_refl _) W D _ _ (by omega) hK rfl rfl)⟩
    · simp [results, Tryd.f49, go_sem, hc5]
    · obtain ⟨u, hu⟩ := hpre
      unfold belowS
      rw [← hu, List.any_append, HP.out, Bool.true_or]
theorem Below_any (w : World) (d p : ByteArray) (hp : p.size ≤ 65536) :
    Calls Tryd.prog 49 #[.string d, .string p] w fun e w' => e = .returned (.bool (belowS d p)) ∧ Below w.heap.size w w' :=
  callsIn_wide.1 (below_in 5 (Nat.le_refl _) d p hp w)
def path_Below.f (d p : ByteArray) : Option Bool := if p.size ≤ 65536 then some (belowS d p) else none
theorem path_Below.calls (a0 : ByteArray) (a1 : ByteArray) (r : Bool) (w : World) (h : path_Below.f a0 a1 = some r) :
    Calls Tryd.prog 49 #[.string a0, .string a1] w fun e w' => e = .returned (.bool r) ∧ Below w.heap.size w w' := by
  unfold path_Below.f at h
  split at h
  · rename_i hs
    injection h with h
    subst h
    exact Below_any w a0 a1 hs
  · simp at h
end Go.Proofs.YtkflalaocnghcaaDoor.Q

namespace Go.Proofs.YtkflalaocnghcaaDoorK
open Go Go.RowKit Go.ChangeShapes Go.WideShapes Go.Deep Go.Proofs.YtkflalaocnghcaaDoorW.PrintWords
/-! Arrays of 32 bytes, whole. -/
structure Sum where
  l : List UInt8
  h : l.length = 32
theorem Sum.eq {a b : Sum} (h : a.l = b.l) : a = b := by cases a; cases b; simp only at h; subst h; rfl
def sumL (s : Sum) : List Value := s.l.map fun b => .int .u8 (b.toNat : Int)
theorem sumL_len (s : Sum) : (sumL s).length = 32 := by unfold sumL; rw [List.length_map, s.h]
def sum0 : Sum := ⟨List.replicate 32 0, by decide⟩
def kSum : Kd Sum where
  sz := 32
  E := []
  K := fun _ x cs => cs = sumL x
  M := fun _ _ _ x cs => cs = sumL x
  K_len := fun h => by rw [h, sumL_len]
  K_one := fun h u hu => by
    rw [h] at hu
    obtain ⟨b, _, rfl⟩ := List.mem_map.1 hu
    rfl
  K_below := fun _ h => h
  K_of_M := fun h => h
  M_mono := fun _ h => h
  M_bound := fun h => h
  M_move := fun _ h => h
  M_lower := fun _ h => h
section
variable {P : Program} {t e : TypeId}
theorem u8_back {n : Int} (h : (Lit.int .u8 n).wf = true) : ((UInt8.ofNat n.toNat).toNat : Int) = n := by
  simp [Lit.wf, IntKind.min, IntKind.max, IntKind.signed, IntKind.bits] at h
  simp [UInt8.toNat_ofNat']
  omega
theorem opens_sum (ht : P.underlying t = some (.array 32 e)) (he : P.underlying e = some (.int .u8)) (hc : P.cellsOf e = 1) (hs : P.cellsOf t = 32) : Opens P t kSum (fun _ => True) := by
  intro H enc w base spare held fuel cs x h
  obtain ⟨xs, m, _, _, hl, hxl, hx⟩ := DataW.trod_array ht h
  rw [hs] at hl
  rw [hc] at hx
  have key : ∀ i, i < 32 → ∃ b : UInt8, cs[i]? = some (.int .u8 (b.toNat : Int)) := by
    intro i hi
    have h1 := hx i hi
    rw [Nat.mul_one, List.getElem?_eq_getElem (by omega)] at h1
    obtain ⟨n, hn, _, hw⟩ := DataW.trod_int he h1
    have hlt : i < cs.length := by omega
    have h2 : (cs.drop i).take 1 = [cs[i]] := by rw [List.drop_eq_getElem_cons hlt]; rfl
    rw [h2] at hn
    injection hn with hn _
    refine ⟨UInt8.ofNat n.toNat, ?_⟩
    rw [List.getElem?_eq_getElem hlt, hn, u8_back hw]
  obtain ⟨l, hll, hlp⟩ := pick_list 32 key
  refine ⟨⟨l, hll⟩, ?_, trivial⟩
  show cs = sumL ⟨l, hll⟩
  apply List.ext_getElem?
  intro i
  show cs[i]? = (l.map fun b => Value.int .u8 (b.toNat : Int))[i]?
  rw [List.getElem?_map]
  rcases Nat.lt_or_ge i 32 with hi | hi
  · have h3 := hlp i l[i] (List.getElem?_eq_getElem (by omega))
    rw [h3, List.getElem?_eq_getElem (by omega)]
    rfl
  · rw [List.getElem?_eq_none (by omega), List.getElem?_eq_none (by omega)]
    rfl
theorem run_part_one {w : World} (he : P.underlying e = some (.int .u8)) (xs : Array Value) (j : Nat) (v : Value) (h : xs[j]? = some v) : (part e xs j).run P w = .ok v w := by
  unfold part isAgg
  simp [Sem.run_bind, run_underlying he, h]
theorem eqItems_bytes {w : World} (d : Nat) (he : P.underlying e = some (.int .u8)) (xs ys : Array Value) (l m : List UInt8) (hx : ∀ (j : Nat) b, l[j]? = some b → xs[j]? = some (.int .u8 (b.toNat : Int))) (hy : ∀ (j : Nat) b, m[j]? = some b → ys[j]? = some (.int .u8 (b.toNat : Int))) :
    ∀ is : List Nat, (∀ j ∈ is, j < l.length ∧ j < m.length) → (Op.eqItems (d + 1) e 1 xs ys is).run P w = .ok (is.all fun j => l[j]? == m[j]?) w := by
  intro is
  induction is with
  | nil => intro _; simp [Op.eqItems]
  | cons j is ih =>
    intro hj
    obtain ⟨h1, h2⟩ := hj j (by simp)
    have a := run_part_one (P := P) (w := w) he xs (j * 1) _ (by rw [Nat.mul_one]; exact hx j l[j] (List.getElem?_eq_getElem h1))
    have b := run_part_one (P := P) (w := w) he ys (j * 1) _ (by rw [Nat.mul_one]; exact hy j m[j] (List.getElem?_eq_getElem h2))
    have c : (Op.equalIn (d + 1) e (.int .u8 (l[j].toNat : Int)) (.int .u8 (m[j].toNat : Int))).run P w = .ok (l[j] == m[j]) w := by
      have e1 : (((l[j].toNat : Nat) : Int) == ((m[j].toNat : Nat) : Int)) = (l[j] == m[j]) := by
        rw [Bool.eq_iff_iff]
        simp only [beq_iff_eq]
        constructor
        · intro h; exact UInt8.toNat.inj (by omega)
        · intro h; rw [h]
      simp [Op.equalIn, Sem.run_bind, run_underlying he, e1]
    simp only [Op.eqItems, Sem.run_bind, a, b, c, Result.andThen_ok]
    rw [List.all_cons, List.getElem?_eq_getElem h1, List.getElem?_eq_getElem h2]
    by_cases hq : l[j] = m[j]
    · have q1 : (l[j] == m[j]) = true := beq_iff_eq.2 hq
      have q2 : (some l[j] == some m[j]) = true := by simp [hq]
      rw [q1, q2]
      simpa using ih (fun k hk => hj k (by simp [hk]))
    · have q1 : (l[j] == m[j]) = false := beq_eq_false_iff_ne.2 hq
      have q2 : (some l[j] == some m[j]) = false := by simp [hq]
      rw [q1, q2]
      simp
theorem eq_sum {w : World} {i : TypeInfo} (d : Nat) (ht : P.underlying t = some (.array 32 e)) (he : P.underlying e = some (.int .u8)) (hc : P.cellsOf e = 1) (hi : P.info? e = some i) (xs ys : Array Value) (s r : Sum) (hx : xs.toList = sumL s) (hy : ys.toList = sumL r) :
    (Op.equalIn (d + 2) t (.agg xs) (.agg ys)).run P w = .ok (s.l == r.l) w := by
  have g : ∀ (zs : Array Value) (q : Sum), zs.toList = sumL q → ∀ (j : Nat) b, q.l[j]? = some b → zs[j]? = some (.int .u8 (b.toNat : Int)) := by
    intro zs q hz j b hb
    rw [← Array.getElem?_toList, hz]
    unfold sumL
    rw [List.getElem?_map, hb]
    rfl
  rw [run_equalIn_array (P := P) (w := w) (d + 1) xs ys ht hi, hc, eqItems_bytes d he xs ys s.l r.l (g xs s hx) (g ys r hy) _ (fun j hj => by rw [List.mem_range] at hj; rw [s.h, r.h]; exact ⟨hj, hj⟩)]
  congr 1
  rw [Bool.eq_iff_iff, List.all_eq_true, beq_iff_eq]
  constructor
  · intro h
    apply List.ext_getElem?
    intro j
    rcases Nat.lt_or_ge j 32 with hj | hj
    · simpa using h j (List.mem_range.2 hj)
    · rw [List.getElem?_eq_none (by rw [s.h]; exact hj), List.getElem?_eq_none (by rw [r.h]; exact hj)]
  · intro h j _
    rw [h]
    simp
end
end Go.Proofs.YtkflalaocnghcaaDoorK

namespace Go.Proofs.YtkflalaocnghcaaDoorK
open Go Go.RowKit Go.Proofs.YtkflalaocnghcaaDoorW.PrintWords
/-! Whole structs and arrays out of memory, wherever they lie. -/
section
variable {P : Program} {ops : Array Oper} {rest : List Oper} {o : Oper} {a : Act} {W : World} {Q : Exit → Act → World → Prop}
/-- The cells cs lie at ad. -/
def At (W : World) (ad : Addr) (cs : List Value) : Prop := ∀ (j : Nat) (u : Value), cs[j]? = some u → W.cell? (ad.add j) = some u
theorem add_zero_ (ad : Addr) : ad.add 0 = ad := by unfold Addr.add; split <;> simp_all
theorem add_at (g i j : Nat) : (⟨g, i, none⟩ : Addr).add j = ⟨g, i + j, none⟩ := by unfold Addr.add; split <;> simp_all
theorem At_box {g : Nat} {cs : Array Value} {t : TypeId} (h : W.heap[g]? = some (.cells cs t (0, 0))) : At W ⟨g, 0, none⟩ cs.toList := fun j u hj => by
  rw [add_at, Nat.zero_add, blk_cell h]
  simpa using hj
theorem At_seg {g i : Nat} {cs : Array Value} {t : TypeId} {l : List Value} (h : W.heap[g]? = some (.cells cs t (0, 0))) (hl : ∀ (j : Nat) (u : Value), l[j]? = some u → cs[i + j]? = some u) : At W ⟨g, i, none⟩ l := fun j u hj => by
  rw [add_at, blk_cell h]
  exact hl j u hj
theorem run_loadVar_at {ty : TypeId} {ad : Addr} {cs : List Value} {d : TypeDesc} (hc : At W ad cs) (hu : P.underlying ty = some d) (hd : (match d with | .struct _ | .array _ _ => true | _ => false) = true) (hi : (P.info? ty).map (·.size) = some cs.length) :
    (loadVar ty ad).run P W = .ok (.agg cs.toArray) W := by
  have hl : (loadCells ad cs.length).run P W = .ok cs.toArray W := run_loadCells_list (P := P) W ad cs hc
  cases hq : P.info? ty with
  | none => simp [hq] at hi
  | some i =>
    have hs : i.size = cs.length := by simpa [hq] using hi
    have hagg : (isAgg ty).run P W = .ok true W := by
      unfold isAgg
      rw [Sem.run_bind, run_underlying hu W]
      cases d <;> simp_all
    simp [loadVar, Sem.run_bind, hagg, sizeOf, typeInfo, hq, hs, hl]
/-- A struct, or an array, is read whole. -/
theorem seg_load (hgd : o.guard = none) (ty : TypeId) (x : Operand) (ho : o.op = .load ty x) {ad : Addr} {cs : List Value} (hc : At W ad cs) (arr : Array Value) (harr : arr = cs.toArray)
    (hx : a.eval x = .pointer (some ad)) {d : TypeDesc} (hu : P.underlying ty = some d) (hd : (match d with | .struct _ | .array _ _ => true | _ => false) = true)
    (hi : (P.info? ty).map (·.size) = some cs.length) (h : wpList P ops Q rest (a.put o.dst (.agg arr)) W) : wpList P ops Q (o :: rest) a W := by
  subst harr
  refine wpList_plain hgd fun K hK => ?_
  unfold Oper.wp execOp
  simp only [ho, hx, Instr.loadAt, Instr.sureAddr, Sem.run_bind, Sem.run_pure, Result.andThen_ok, run_loadVar_at hc hu hd hi]
  exact hK _ _ h
/-- The same in a region that draws its order and only reads. -/
theorem quiet_load {C : World → Prop} {K : Act → Prop} (hw : Region.wanted o (yielded ops a.tmps) = true) (ty : TypeId) (x : Operand) (ho : o.op = .load ty x) {ad : Addr} {cs : List Value} (arr : Array Value) (harr : arr = cs.toArray) (hc : ∀ w, C w → At w ad cs)
    (hx : a.eval x = .pointer (some ad)) {d : TypeDesc} (hu : P.underlying ty = some d) (hd : (match d with | .struct _ | .array _ _ => true | _ => false) = true)
    (hi : (P.info? ty).map (·.size) = some cs.length) (h : K (a.put o.dst (.agg arr))) : if Region.wanted o (yielded ops a.tmps) = true then o.quiet P a C K else K (a.put o.dst undef) := by
  subst harr
  rw [if_pos hw]
  refine ⟨_, fun w hC => ?_, h⟩
  unfold Oper.quietAt execOp
  simp only [ho, hx, Instr.loadAt, Instr.sureAddr, Sem.run_bind, Sem.run_pure, Result.andThen_ok, run_loadVar_at (hc w hC) hu hd hi]
  exact ⟨rfl, rfl⟩
/-- An operation that tells a value and turns nothing. -/
theorem val_event (hgd : o.guard = none) {N : Tmp} (_hd : o.dst = some N) {v : Value} (hrun : (execOp a.eval o).run P W = .ok (.value v) W) (h : wpList P ops Q rest (a.put o.dst v) W) : wpList P ops Q (o :: rest) a W :=
  Kd.event_run hgd hrun h
/-- 'string(x[:])' of an array of 32 bytes. -/
theorem sumstr_event (hgd : o.guard = none) {src dst e : TypeId} {x : Operand} (ho : o.op = .convert src dst x) {ad : Addr} {cap : Nat} {s : Sum} (hc : At W ad (sumL s)) (hx : a.eval x = .slice (some ad) 32 cap)
    (hs : P.underlying src = some (.slice e)) (he : P.underlying e = some (.int .u8)) (hd : P.underlying dst = some .string)
    (h : wpList P ops Q rest (a.put o.dst (.string ⟨s.l.toArray⟩)) W) : wpList P ops Q (o :: rest) a W := by
  have hr := run_convert_bytes_back (P := P) W src dst e ad cap s.l hs he hd (fun j hj => hc j _ (by unfold sumL; rw [List.getElem?_map, List.getElem?_eq_getElem hj]; rfl))
  rw [s.h] at hr
  exact Kd.event_run hgd (by unfold execOp; simp only [ho, hx, Sem.run_bind, hr, Result.andThen_ok, Sem.run_pure]) h
/-- A new block, by whatever operation: its world under a name. -/
theorem new_event (hgd : o.guard = none) {N : Tmp} (_hd : o.dst = some N) {v : Value} {ob : Obj} (hrun : (execOp a.eval o).run P W = .ok (.value v) (W.alloc ob))
    (h : ∀ w1, Prev w1 W .none → Holds w1 W.heap.size ob → wpList P ops Q rest (a.put o.dst v) w1) : wpList P ops Q (o :: rest) a W :=
  Kd.event_run hgd hrun (h _ inferInstance inferInstance)
end
end Go.Proofs.YtkflalaocnghcaaDoorK

namespace Go.Proofs.YtkflalaocnghcaaDoorK
open Go Go.RowKit Go.Proofs.YtkflalaocnghcaaDoorW.PrintWords
/-! 'copy(x[i:], s)' of a string that may be too long. -/
theorem run_copy_min {P : Program} (w : World) (dT sT ty elem : TypeId) (g o dLen dCap : Nat) (s : ByteArray) (cur : Array Value) (t : TypeId)
    (hu : P.underlying dT = some (.slice elem)) (hs : (P.info? elem).map (·.size) = some 1) (hg : w.heap[g]? = some (.cells cur t (0, 0))) (hfit : o + min s.size dLen ≤ cur.size) :
    (Builtin.copy_ #[dT, sT] ty #[.slice (some ⟨g, o, none⟩) dLen dCap, .string s]).run P w =
      .ok (goInt (min s.size dLen)) (w.setRow g (cur.toList.take o ++ Lib.byteCells (s.data.toList.take (min s.size dLen)) ++ cur.toList.drop (o + min s.size dLen)).toArray) := by
  have hlen : (Lib.byteCells (s.data.toList.take (min s.size dLen))).length = min s.size dLen := by
    rw [Lib.byteCells_length, List.length_take]
    have : s.data.toList.length = s.size := by simp
    omega
  have hst := run_storeCells_at P g o t (Lib.byteCells (s.data.toList.take (min s.size dLen))) 0 cur w hg (by rw [hlen]; simpa using hfit) (Lib.byteCells_one _)
  have htk : List.take (min s.size dLen) (List.map (fun b : UInt8 => Value.int IntKind.u8 (b.toNat : Int)) s.data.toList) = Lib.byteCells (s.data.toList.take (min s.size dLen)) := by
    rw [← List.map_take]
    rfl
  rw [hlen] at hst
  simp only [Nat.add_zero] at hst
  cases hq : P.info? elem with
  | none => simp [hq] at hs
  | some i =>
    have hm : Nat.min s.size dLen = min s.size dLen := rfl
    simp [Builtin.copy_, run_underlying hu, Builtin.lenOf, Builtin.firstCells, sizeOf, typeInfo, hq, hm]
    rw [htk, hst]
    simp [Result.andThen]
    try (congr 1; omega)
/-- A struct laid cell by cell into a new row is the struct. -/
theorem laid_list : ∀ (l : List Value) (k : Nat) (acc : Array Value), acc.size = k + l.length → (l.zipIdx k).foldl (fun cs x => cs.setIfInBounds x.2 x.1) acc = (acc.toList.take k ++ l).toArray
  | [], k, acc, h => by
    simp only [List.zipIdx_nil, List.foldl_nil, List.append_nil]
    rw [List.take_of_length_le (by simp at h ⊢; omega)]
  | v :: l, k, acc, h => by
    simp only [List.zipIdx_cons, List.foldl_cons]
    simp only [List.length_cons] at h
    rw [laid_list l (k + 1) _ (by simp; omega)]
    congr 1
    have hk : k < acc.toList.length := by simp; omega
    rw [Array.toList_setIfInBounds, List.take_succ_eq_append_getElem (by simpa using hk), List.take_set_of_le (Nat.le_refl k), List.getElem_set_self]
    simp
theorem laid_row (zs cs : Array Value) (n : Nat) (h : zs.size = n) (hn : cs.size = n) : Array.foldl (fun cs x => cs.setIfInBounds x.2 x.1) zs cs.zipIdx 0 n = cs := by
  have h1 := laid_list cs.toList 0 zs (by simp; omega)
  have h2 : cs.zipIdx.size = n := by simp [hn]
  have h3 := Array.foldl_toList (fun (cs : Array Value) (x : Value × Nat) => cs.setIfInBounds x.2 x.1) (init := zs) (xs := cs.zipIdx)
  rw [← h2]
  rw [← h3, Array.toList_zipIdx, h1]
  simp
section
variable {P : Program} {ops : Array Oper} {oi : Oper} {a : Act} {w : World} {Q : Exit → Act → World → Prop} {K : Act → World → Prop}
theorem copy_step {N : Option Tmp} (d x : Operand) (dT sT elem : TypeId) (hw : Region.wanted oi (yielded ops a.tmps) = true) (hN : oi.dst = N) (hop : oi.op = .call { callee := .builtin .copy, args := #[d, x], argTypes := #[dT, sT] })
    {g o dLen dCap : Nat} {s : ByteArray} {cur : Array Value} {t : TypeId} (hg : w.heap[g]? = some (.cells cur t (0, 0))) (hd : a.eval d = .slice (some ⟨g, o, none⟩) dLen dCap) (hx : a.eval x = .string s)
    (hu : P.underlying dT = some (.slice elem)) (hs : (P.info? elem).map (·.size) = some 1) (hfit : o + min s.size dLen ≤ cur.size)
    (h : ∀ w1, w1.heap[g]? = some (.cells (cur.toList.take o ++ Lib.byteCells (s.data.toList.take (min s.size dLen)) ++ cur.toList.drop (o + min s.size dLen)).toArray t (0, 0)) → w.grownBy w1 (some g) → K (a.put N (goInt (min s.size dLen))) w1) :
    if Region.wanted oi (yielded ops a.tmps) = true then Oper.wp P oi a w K Q else K (a.put N undef) w := by
  rw [if_pos hw]
  subst hN
  have hrun := run_copy_min (P := P) w dT sT oi.type elem g o dLen dCap s cur t hu hs hg hfit
  have hr : (execOp a.eval oi).run P w = .ok (.value (goInt (min s.size dLen))) (w.setRow g (cur.toList.take o ++ Lib.byteCells (s.data.toList.take (min s.size dLen)) ++ cur.toList.drop (o + min s.size dLen)).toArray) := by
    unfold execOp
    simp only [hop]
    simp [resolve, invoke, builtin, hd, hx, hrun, Result.andThen]
  unfold Oper.wp
  rw [hr]
  exact h _ (setRow_heap w g cur _ t (0, 0) hg) (grown_setRow w g _)
end
end Go.Proofs.YtkflalaocnghcaaDoorK

namespace Go.Proofs.YtkflalaocnghcaaDoorK
open Go Go.RowKit Go.Proofs.YtkflalaocnghcaaDoorW.PrintWords Go.Proofs.YtkflalaocnghcaaDoorW.PrintLast
/-! A whole box is written, in a region that draws its order. -/
theorem box_skip {P : Program} {ops : Array Oper} {oi : Oper} {a : Act} {W : World} {K : Act → World → Prop} {Q : Exit → Act → World → Prop} (hw : Region.wanted oi (yielded ops a.tmps) = true) (hN : oi.dst = none) (ty : TypeId) (x y : Operand) (ho : oi.op = .store ty x y)
    {g : Nat} {t : TypeId} {old : Array Value} (hg : W.heap[g]? = some (.cells old t (0, 0))) (cells : Array Value) (hx : a.eval x = .pointer (some ⟨g, 0, none⟩)) (hy : a.eval y = .agg cells)
    (hi : (P.info? ty).map (·.size) = some cells.size) (hold : old.size = cells.size) (h1 : cells.toList.all (·.oneCell') = true)
    (h : ∀ w1, w1.heap[g]? = some (.cells cells t (0, 0)) → W.grownBy w1 (some g) → K a w1) : if Region.wanted oi (yielded ops a.tmps) = true then Oper.wp P oi a W K Q else K (a.put none undef) W := by
  rw [if_pos hw]
  refine wp_store_row ty x y ho g cells hx hy t old hg hi hold (by rw [← Array.all_toList]; exact h1) ?_
  rw [hN]
  exact h _ (setRow_heap W g old cells t (0, 0) hg) (grown_setRow W g cells)
end Go.Proofs.YtkflalaocnghcaaDoorK

namespace Go.Proofs.YtkflalaocnghcaaDoor.Q
open Go Go.Proofs Go.Shelf Go.RowKit Go.Lib Go.Sort Go.Proofs.YtkflalaocnghcaaDoorP Go.Proofs.YtkflalaocnghcaaDoorK Go.Proofs.YtkflalaocnghcaaDoorW.PrintWords Go.Proofs.YtkflalaocnghcaaDoorW.PrintLast Go.Proofs.YtkflalaocnghcaaDoorW.PrintMore
set_option linter.unusedSimpArgs false
set_option linter.unusedVariables false
/-! ### path.Compare -/
theorem strcmp_c (W : World) (a b : ByteArray) : Calls Tryd.prog 47 #[.string a, .string b] W fun e w' => e = .returned (.int .i64 (Lib.compareBytes a.data.toList b.data.toList)) ∧ w' = W := Any.strings_Compare layStrCmp a b W
theorem intcmp_c (W : World) (a b : Int) : Calls Tryd.prog 48 #[.int .i64 a, .int .i64 b] W fun e w' => e = .returned (.int .i64 (Lib.compareInt a b)) ∧ w' = W := AnyG.cmp_Compare_int layIntCmp a b W
theorem min2_mn (k k' : IntKind) (x y : Int) : Builtin.min2 (.int k x) (.int k' y) = pure (.int k (mn x y)) := by
  rw [min2_int]
  unfold mn
  rfl
attribute [local go_sem ↓] Go.Proofs.YtkflalaocnghcaaDoorK.isSome_setCell
attribute [local go_sem] min2_mn min_two cell_held frozen_held
theorem lex_end {α : Type} (f : α → α → Int) (x y : List α) (k : Nat) (hx : k ≤ x.length) (hy : k ≤ y.length) (h : k = x.length ∨ k = y.length) : lexC f (x.drop k) (y.drop k) = Lib.compareInt x.length y.length := by
  unfold Lib.compareInt
  by_cases h1 : k = x.length
  · rw [List.drop_of_length_le (show x.length ≤ k by omega)]
    by_cases h2 : k = y.length
    · rw [List.drop_of_length_le (show y.length ≤ k by omega), if_neg (by omega), if_neg (by omega)]
      rfl
    · rw [List.drop_eq_getElem_cons (show k < y.length by omega), if_pos (by omega)]
      rfl
  · rw [List.drop_of_length_le (show y.length ≤ k by omega), List.drop_eq_getElem_cons (show k < x.length by omega), if_neg (by omega), if_pos (by omega)]
    rfl
def pcmpR.T5 : Bool × List (List Nat × List Nat) := (true, [([], []), ([], []), ([0, 1], [0, 1]), ([2], [2]), ([], []), ([], []), ([4, 5], [4, 5]), ([6], [6]), ([3, 7], [3, 7]), ([8, 8, 0, 1, 2, 3, 4, 5, 6, 7, 8], [8])])
def pcmpR.B5 : List Nat := [0, 0, 3, 7, 0, 0, 48, 112, 255, 511]
theorem pcmpR.tab5 : rtab .any (opsOf Tryd.f32 5) = pcmpR.T5 := by kernel_rfl
theorem pcmpR.bits5 : waitsOk pcmpR.T5.2 pcmpR.B5 = true := by kernel_rfl
theorem drewN_drew (W : World) (q : Nat) : (W.drewN q).drew = W.drewN (q + 1) := rfl
theorem two_grow (W : World) (o1 o2 : Obj) (q : Nat) : ((W.alloc o1).alloc o2).drewN q = grow (W.drewN q) #[o1, o2] := by
  have h : ((W.alloc o1).alloc o2).drewN q = ((W.drewN q).alloc o1).alloc o2 := rfl
  rw [h, alloc_eq_grow, alloc_eq_grow, grow_grow]
  rfl
set_option maxRecDepth 100000 in
set_option maxHeartbeats 2000000 in
theorem cmp_any (w : World) (a b : ByteArray) (ha : a.size < 4294967281) (hb : b.size < 4294967281) :
    Calls Tryd.prog 32 #[.string a, .string b] w fun e w' => e = .returned (.int .i64 (pcmp a b)) ∧ ∃ q os, w' = grow (w.drewN q) os := by
  have hsa := fun W => split_c W a ha
  have hsb := fun W => split_c W b hb
  have HSA := Aside0.mk hsa
  have HSB := Aside0.mk hsb
  clear hsa hsb ha hb
  go_enter Tryd.func32, Tryd.ntmps32
  go_wp2_with fail
  refine (HSA.out _).mono ?_
  rintro e w1 ⟨lA, hA, nA, rfl, rfl⟩
  go_wp2_with fail
  refine (HSB.out _).mono ?_
  rintro e w2 ⟨lB, hB, nB, rfl, rfl⟩
  obtain ⟨r, hpr⟩ : ∃ r, pcmp a b = r := ⟨_, rfl⟩
  have hr : Aside0 (cmpN (lA.map (·.data.toList)) (lB.map (·.data.toList)) = r) := ⟨by rw [hA.out, hB.out]; exact hpr⟩
  have HPR := Aside0.mk hpr
  clear hpr
  go_wp2_with fail
  generalize hm : mn (lA.length : Int) (lB.length : Int) = m
  have hm1 : m ≤ lA.length ∧ m ≤ lB.length ∧ (m = lA.length ∨ m = lB.length) := by unfold mn at hm; split at hm <;> omega
  clear hm
  go_loopw [18] (fun i wr => ∃ k q : Nat, (k : Int) ≤ m ∧ i = .int .i64 (k : Int) ∧ Aside0 (cmpN ((lA.drop k).map (·.data.toList)) ((lB.drop k).map (·.data.toList)) = r) ∧ Aside0 (wr = ((w.alloc (.cells (lA.map Value.string).toArray 9)).alloc (.cells (lB.map Value.string).toArray 9)).drewN q)) (fun i _ => m.toNat - (RowKit.intOf i).toNat)
  case atStart => exact ⟨0, 0, by omega, rfl, hr, ⟨rfl⟩⟩
  case round =>
    obtain ⟨k, q, hk, rfl, HR, HW⟩ := hrel
    have hw := HW.out
    subst hw
    clear HW
    by_cases hlt : (k : Int) < m
    · have hka : k < lA.length := by omega
      have hkb : k < lB.length := by omega
      have hR := HR.out
      rw [List.drop_eq_getElem_cons hka, List.drop_eq_getElem_cons hkb, List.map_cons, List.map_cons] at hR
      have hsc := fun W => strcmp_c W lA[k] lB[k]
      simp only [cmpN, lexC] at hR
      generalize Lib.compareBytes lA[k].data.toList lB[k].data.toList = c at hR hsc
      have HSC := Aside0.mk hsc
      clear hsc
      go_wp2_with fail
      refine start_ (n := 10) (S := fun w' => w'.heap[w.heap.size]? = some (.cells (lA.map Value.string).toArray 9 (0, 0)) ∧ w'.heap[w.heap.size + 1]? = some (.cells (lB.map Value.string).toArray 9 (0, 0))) (ds := []) #[false, false, false, false, false, false, false, false, false, false] (by kernel_rfl) rfl rfl ⟨held, held⟩ (fun hHeld => ?_); refine with_tabW pcmpR.tab5 pcmpR.bits5 (fun HT_ HW_ => ?_)
      refine pure_ (i := 0) (N := some 21) (v := ?_) (a' := ?_) #[true, false, false, false, false, false, false, false, false, false] rfl rfl (any_of HT_.out (by kernel_rfl)) (fun _ _ _ h => h) (Or.inl ⟨by rfl, ?_⟩) ?_ ?_
      rotate_left
      · intro w'
        go_simp
        with_reducible rfl
      rotate_left
      · simp only [Act.put, List.setIfInBounds_toArray, List.set_cons_zero, List.set_cons_succ, i64_w, i32_w]
        rfl
      refine pure_ (i := 1) (N := some 22) (v := ?_) (a' := ?_) #[true, true, false, false, false, false, false, false, false, false] rfl rfl (any_of HT_.out (by kernel_rfl)) (fun _ _ _ h => h) (Or.inl ⟨by rfl, ?_⟩) ?_ ?_
      rotate_left
      · intro w'
        go_simp
        with_reducible rfl
      rotate_left
      · simp only [Act.put, List.setIfInBounds_toArray, List.set_cons_zero, List.set_cons_succ, i64_w, i32_w]
        rfl
      refine pure_ (i := 2) (N := some 23) (v := ?_) (a' := ?_) #[true, true, true, false, false, false, false, false, false, false] rfl rfl (any_of HT_.out (by kernel_rfl)) (fun _ _ _ h => h) (Or.inl ⟨by rfl, ?_⟩) ?_ ?_
      rotate_left
      · intro w'
        go_simp
        with_reducible rfl
      rotate_left
      · simp only [Act.put, List.setIfInBounds_toArray, List.set_cons_zero, List.set_cons_succ, i64_w, i32_w]
        rfl
      refine pure_ (i := 4) (N := some 25) (v := ?_) (a' := ?_) #[true, true, true, false, true, false, false, false, false, false] rfl rfl (any_of HT_.out (by kernel_rfl)) (fun _ _ _ h => h) (Or.inl ⟨by rfl, ?_⟩) ?_ ?_
      rotate_left
      · intro w'
        go_simp
        with_reducible rfl
      rotate_left
      · simp only [Act.put, List.setIfInBounds_toArray, List.set_cons_zero, List.set_cons_succ, i64_w, i32_w]
        rfl
      refine pure_ (i := 5) (N := some 26) (v := ?_) (a' := ?_) #[true, true, true, false, true, true, false, false, false, false] rfl rfl (any_of HT_.out (by kernel_rfl)) (fun _ _ _ h => h) (Or.inl ⟨by rfl, ?_⟩) ?_ ?_
      rotate_left
      · intro w'
        go_simp
        with_reducible rfl
      rotate_left
      · simp only [Act.put, List.setIfInBounds_toArray, List.set_cons_zero, List.set_cons_succ, i64_w, i32_w]
        rfl
      refine pure_ (i := 6) (N := some 27) (v := ?_) (a' := ?_) #[true, true, true, false, true, true, true, false, false, false] rfl rfl (any_of HT_.out (by kernel_rfl)) (fun _ _ _ h => h) (Or.inl ⟨by rfl, ?_⟩) ?_ ?_
      rotate_left
      · intro w'
        go_simp
        with_reducible rfl
      rotate_left
      · simp only [Act.put, List.setIfInBounds_toArray, List.set_cons_zero, List.set_cons_succ, i64_w, i32_w]
        rfl
      refine take_ (i := 3) (N := some 24) (v := ?_) (a' := ?_) #[true, true, true, true, true, true, true, false, false, false] rfl rfl (take_ofW HT_.out HW_.out (by kernel_rfl)) (fun _ _ _ h => h) (Or.inl ⟨by rfl, ?_⟩) hHeld ?_ ?_
      rotate_left
      · rintro w' ⟨s0, s1⟩
        have i0 : Holds w' w.heap.size (.cells (lA.map Value.string).toArray 9) := ⟨s0⟩
        have i1 : Holds w' (w.heap.size + 1) (.cells (lB.map Value.string).toArray 9) := ⟨s1⟩
        go_simp
        with_reducible rfl
      rotate_left
      · simp only [Act.put, List.setIfInBounds_toArray, List.set_cons_zero, List.set_cons_succ, i64_w, i32_w]
        rfl
      refine take_ (i := 7) (N := some 28) (v := ?_) (a' := ?_) #[true, true, true, true, true, true, true, true, false, false] rfl rfl (take_ofW HT_.out HW_.out (by kernel_rfl)) (fun _ _ _ h => h) (Or.inl ⟨by rfl, ?_⟩) hHeld ?_ ?_
      rotate_left
      · rintro w' ⟨s0, s1⟩
        have i0 : Holds w' w.heap.size (.cells (lA.map Value.string).toArray 9) := ⟨s0⟩
        have i1 : Holds w' (w.heap.size + 1) (.cells (lB.map Value.string).toArray 9) := ⟨s1⟩
        go_simp
        with_reducible rfl
      rotate_left
      · simp only [Act.put, List.setIfInBounds_toArray, List.set_cons_zero, List.set_cons_succ, i64_w, i32_w]
        rfl
      refine one_ (i := 8) (N := some 29) #[true, true, true, true, true, true, true, true, true, false] rfl rfl (one_of HT_.out (by kernel_rfl)) (by decide) (fun K hK => ?_)
      refine goes_ Tryd.func47 (by kernel_rfl) rfl #[.string lA[k], .string lB[k]] (by rfl) rfl rfl (by (try simp only [List.map_toArray, List.map_cons, List.map_nil]); first | done | rfl) ?_
      refine (HSC.out _).mono ?_
      rintro e1 w1 ⟨rfl, rfl⟩
      refine ⟨_, rfl, ?_⟩
      refine hK.out _ _ ⟨held, held⟩ (fun hHeld => ?_)
      clear hK K
      refine norm_ (a' := ?_) ?_ ?_
      rotate_left
      · show Act.put _ (some 29) _ = _
        simp only [Act.put, List.setIfInBounds_toArray, List.set_cons_zero, List.set_cons_succ, i64_w, i32_w]
        rfl
      refine pure_ (i := 9) (N := some 8) (v := ?_) (a' := ?_) #[true, true, true, true, true, true, true, true, true, true] rfl rfl (any_of HT_.out (by kernel_rfl)) (fun _ _ _ h => h) (Or.inl ⟨by rfl, ?_⟩) ?_ ?_
      rotate_left
      · intro w'
        go_simp
        with_reducible rfl
      rotate_left
      · simp only [Act.put, List.setIfInBounds_toArray, List.set_cons_zero, List.set_cons_succ, i64_w, i32_w]
        rfl
      refine done_ (done_of HT_.out (by kernel_rfl)) ?_
      by_cases h0 : c = 0
      · subst h0
        rw [if_pos rfl] at hR
        have HR' := Aside0.mk hR
        clear hR
        go_wp2_with fail
        go_roundw
        case rel => exact ⟨k + 1, q + 1, by omega, by go_num, HR', ⟨rfl⟩⟩
        case measure => simp [RowKit.intOf]; omega
      · rw [if_neg h0] at hR
        subst hR
        have hz1 : (c != 0) = true := bne_iff_ne.mpr h0
        have hz2 : (c == 0) = false := beq_eq_false_iff_ne.mpr h0
        go_wp2_with fail
        go_ret
        exact ⟨by rw [HPR.out]; rfl, q + 1, _, two_grow _ _ _ (q + 1)⟩
    · have hR := HR.out
      have he := lex_end Lib.compareBytes (lA.map (·.data.toList)) (lB.map (·.data.toList)) k (by simp only [List.length_map]; omega) (by simp only [List.length_map]; omega) (by simp only [List.length_map]; omega)
      unfold cmpN at hR
      rw [List.map_drop, List.map_drop, he] at hR
      simp only [List.length_map] at hR
      have hic := fun W => intcmp_c W lA.length lB.length
      rw [hR] at hic
      have HIC := Aside0.mk hic
      clear hR he hic HR
      go_wp2_with fail
      refine (HIC.out _).mono ?_
      rintro e w3 ⟨rfl, rfl⟩
      go_wp2_with fail
      go_ret
      exact ⟨by rw [HPR.out]; rfl, q, _, two_grow _ _ _ q⟩
theorem grow_below (w : World) (q : Nat) (os : Array Obj) : Below w.heap.size w (grow (w.drewN q) os) := by
  have h : (w.drewN q).heap = w.heap := rfl
  exact ⟨rfl, rfl, rfl, by show w.heap.size ≤ ((w.drewN q).heap ++ os).size; rw [h, Array.size_append]; omega, fun k hk => by show ((w.drewN q).heap ++ os)[k]? = w.heap[k]?; rw [h, Array.getElem?_append_left hk]⟩
def path_Compare.f (a b : ByteArray) : Option Int := if a.size ≤ 65536 ∧ b.size ≤ 65536 then some (pcmp a b) else none
theorem path_Compare.calls (a0 : ByteArray) (a1 : ByteArray) (r : Int) (w : World) (h : path_Compare.f a0 a1 = some r) :
    Calls Tryd.prog 32 #[.string a0, .string a1] w fun e w' => e = .returned (.int .i64 r) ∧ Below w.heap.size w w' := by
  unfold path_Compare.f at h
  split at h
  · rename_i hs
    injection h with h
    subst h
    refine (cmp_any w a0 a1 (by omega) (by omega)).mono ?_
    rintro e w' ⟨rfl, q, os, rfl⟩
    exact ⟨rfl, grow_below _ _ _⟩
  · simp at h
end Go.Proofs.YtkflalaocnghcaaDoor.Q

namespace Go.Proofs.YtkflalaocnghcaaDoorP
open Go Go.Lib Go.Sort Go.Proofs
/-! Orders by keys, and what a sort leaves. -/
theorem good_int : Good Lib.compareInt where
  refl x := by simp [Lib.compareInt]
  eq x y h := by unfold Lib.compareInt at h; split at h <;> (try split at h) <;> omega
  lt x y := by unfold Lib.compareInt; split <;> split <;> (try split) <;> omega
  trans x y z h1 h2 := by
    unfold Lib.compareInt at h1 h2 ⊢
    split at h1 <;> split at h2 <;> (try split at h1) <;> (try split at h2) <;> split <;> (try split) <;> omega
theorem good_pair {α β : Type} {f : α → α → Int} {g : β → β → Int} (hf : Good f) (hg : Good g) : Good (fun x y : α × β => if f x.1 y.1 = 0 then g x.2 y.2 else f x.1 y.1) where
  refl x := by simp only [hf.refl, if_true, hg.refl]
  eq x y h := by
    (try simp only at h)
    split at h
    · rename_i h1
      exact Prod.ext (hf.eq _ _ h1) (hg.eq _ _ h)
    · contradiction
  lt x y := by
    have h1 := hf.lt x.1 y.1
    have h2 := hf.lt y.1 x.1
    have h3 := hg.lt x.2 y.2
    (try simp only)
    by_cases h : f x.1 y.1 = 0
    · rw [if_pos h, if_pos (by omega)]
      exact h3
    · rw [if_neg h, if_neg (by omega)]
      exact h1
  trans x y z h1 h2 := by
    (try simp only at h1 h2 ⊢)
    by_cases e1 : f x.1 y.1 = 0
    · rw [if_pos e1] at h1
      have ex := hf.eq _ _ e1
      rw [ex]
      by_cases e2 : f y.1 z.1 = 0
      · rw [if_pos e2] at h2 ⊢
        exact hg.trans _ _ _ h1 h2
      · rw [if_neg e2] at h2 ⊢
        exact h2
    · rw [if_neg e1] at h1
      by_cases e2 : f y.1 z.1 = 0
      · have ey := hf.eq _ _ e2
        rw [← ey, if_neg e1]
        exact h1
      · rw [if_neg e2] at h2
        have h3 := hf.trans _ _ _ h1 h2
        rw [if_neg (by omega)]
        exact h3
/-- By a key: a strict weak order. -/
theorem swo_key {α β : Type} {g : β → β → Int} (h : Good g) (k : α → β) : SWO (ltOf fun x y : α => g (k x) (k y)) where
  irrefl x := by simp [ltOf, h.refl]
  trans x y z h1 h2 := by
    simp only [ltOf, decide_eq_true_eq] at h1 h2 ⊢
    exact h.trans _ _ _ h1 h2
  ntrans x y z h1 h2 := by
    simp only [ltOf, decide_eq_false_iff_not] at h1 h2 ⊢
    intro h3
    have a1 := h.lt (k x) (k y)
    have a2 := h.lt (k y) (k x)
    have b1 := h.lt (k y) (k z)
    have b2 := h.lt (k z) (k y)
    have c1 := h.lt (k x) (k z)
    have c2 := h.lt (k z) (k x)
    by_cases e1 : g (k x) (k y) = 0
    · rw [h.eq _ _ e1] at h3
      exact h2 h3
    · by_cases e2 : g (k y) (k z) = 0
      · rw [← h.eq _ _ e2] at h3
        exact h1 h3
      · have h4 := h.trans (k z) (k y) (k x) (by omega) (by omega)
        omega
/-- What a sort leaves, as a list. -/
theorem sorted_list {α : Type} [Inhabited α] (lt : α → α → Bool) (d d' : Array α) (hp : PermIn 0 d.size d d') (hs : SortedIn lt 0 d.size d') : d'.toList.Perm d.toList ∧ d'.toList.Pairwise (fun x y => lt y x = false) := by
  obtain ⟨h1, _, h3⟩ := hp
  have e1 : d'.extract 0 d.size = d' := by rw [← h1]; simp
  have e2 : d.extract 0 d.size = d := by simp
  rw [e1, e2] at h3
  refine ⟨h3, ?_⟩
  rw [List.pairwise_iff_getElem]
  intro i j hi hj hij
  have hi' : i < d'.size := by simpa using hi
  have hj' : j < d'.size := by simpa using hj
  have := hs i j (Nat.zero_le _) hij (by omega)
  rw [getElem!_pos d' j hj', getElem!_pos d' i hi'] at this
  simpa using this
/-- Two sorted lists of the same things are one, where no two of them are alike. -/
theorem perm_sorted' {α : Type} (le : α → α → Prop) : ∀ l m : List α, (∀ a ∈ l, ∀ b ∈ l, le a b → le b a → a = b) → l.Perm m → l.Pairwise le → m.Pairwise le → l = m := by
  intro l
  induction l with
  | nil => intro m _ h _ _; exact h.nil_eq
  | cons a l ih =>
    intro m anti h hl hm
    cases m with
    | nil => exact absurd h.symm.nil_eq (by simp)
    | cons b m =>
      have hl' := List.pairwise_cons.1 hl
      have hm' := List.pairwise_cons.1 hm
      have hab : a = b := by
        have h1 : b ∈ a :: l := h.mem_iff.2 (by simp)
        have h2 : a ∈ b :: m := h.mem_iff.1 (by simp)
        rcases List.mem_cons.1 h1 with e | e
        · exact e.symm
        · rcases List.mem_cons.1 h2 with e2 | e2
          · exact e2
          · exact anti a (by simp) b h1 (hl'.1 b e) (hm'.1 a e2)
      subst hab
      rw [ih m (fun x hx y hy => anti x (by simp [hx]) y (by simp [hy])) (List.Perm.cons_inv h) hl'.2 hm'.2]
end Go.Proofs.YtkflalaocnghcaaDoorP

namespace Go.Proofs.YtkflalaocnghcaaDoor.Q
open Go Go.Proofs Go.Shelf Go.RowKit Go.Lib Go.Sort Go.Proofs.YtkflalaocnghcaaDoorP Go.Proofs.YtkflalaocnghcaaDoorK Go.Proofs.YtkflalaocnghcaaDoorW.PrintWords Go.Proofs.YtkflalaocnghcaaDoorW.PrintLast Go.Proofs.YtkflalaocnghcaaDoorW.PrintMore
set_option linter.unusedSimpArgs false
set_option linter.unusedVariables false
/-! ### What scope's functions compute. Plain. -/
def withinS (d p : ByteArray) : Bool := (p.toList == d.toList) || belowS d p
def leP (x y : ByteArray) : Prop := ¬ pcmp y x < 0
instance (x y : ByteArray) : Decidable (leP x y) := inferInstanceAs (Decidable (¬ _))
theorem leP_trans {x y z : ByteArray} (h1 : leP x y) (h2 : leP y z) : leP x z := by
  have := (swo_key good_path (fun x : ByteArray => x)).ntrans z y x
  simp only [ltOf, decide_eq_false_iff_not] at this
  exact this h2 h1
theorem leP_total (x y : ByteArray) : leP x y ∨ leP y x := by
  unfold leP
  have h := good_path.lt x y
  omega
theorem leP_anti {x y : ByteArray} (h1 : leP x y) (h2 : leP y x) : x = y := by
  unfold leP at h1 h2
  have a1 := good_path.lt x y
  have a2 := good_path.lt y x
  exact good_path.eq x y (by omega)
theorem leP_refl (x : ByteArray) : leP x x := by
  unfold leP
  rw [good_path.refl]
  decide
def insP (x : ByteArray) : List ByteArray → List ByteArray
  | [] => [x]
  | y :: l => if leP x y then x :: y :: l else y :: insP x l
def sortP : List ByteArray → List ByteArray
  | [] => []
  | x :: l => insP x (sortP l)
theorem insP_perm (x : ByteArray) (l : List ByteArray) : (insP x l).Perm (x :: l) := by
  induction l with
  | nil => exact List.Perm.refl _
  | cons y l ih =>
    unfold insP
    split
    · exact List.Perm.refl _
    · exact (List.Perm.cons y ih).trans (List.Perm.swap x y l)
theorem sortP_perm (l : List ByteArray) : (sortP l).Perm l := by
  induction l with
  | nil => exact List.Perm.refl _
  | cons x l ih => exact (insP_perm x _).trans (List.Perm.cons x ih)
theorem insP_sorted (x : ByteArray) (l : List ByteArray) (h : l.Pairwise leP) : (insP x l).Pairwise leP := by
  induction l with
  | nil => exact List.pairwise_singleton _ _
  | cons y l ih =>
    have h' := List.pairwise_cons.1 h
    unfold insP
    split
    · rename_i hxy
      refine List.pairwise_cons.2 ⟨fun z hz => ?_, h⟩
      rcases List.mem_cons.1 hz with rfl | hz
      · exact hxy
      · exact leP_trans hxy (h'.1 z hz)
    · rename_i hxy
      refine List.pairwise_cons.2 ⟨fun z hz => ?_, ih h'.2⟩
      rcases List.mem_cons.1 ((insP_perm x l).mem_iff.1 hz) with rfl | hz
      · exact (leP_total z y).resolve_left hxy
      · exact h'.1 z hz
theorem sortP_sorted (l : List ByteArray) : (sortP l).Pairwise leP := by
  induction l with
  | nil => exact List.Pairwise.nil
  | cons x l ih => exact insP_sorted x _ ih
theorem sortP_one {l m : List ByteArray} (hp : m.Perm l) (hs : m.Pairwise leP) : m = sortP l :=
  perm_sorted leP (fun a b h1 h2 => leP_anti h1 h2) m (sortP l) (hp.trans (sortP_perm l).symm) hs (sortP_sorted l) (fun a _ => leP_refl a)
/-- One more directory, behind those that are kept. -/
def addP (out : List ByteArray) (p : ByteArray) : List ByteArray := match out.getLast? with
  | none => [p]
  | some q => if withinS q p = true then out else out ++ [p]
def redA : List ByteArray → List ByteArray → List ByteArray
  | out, [] => out
  | out, p :: l => redA (addP out p) l
def reduceS (l : List ByteArray) : List ByteArray := redA [] (sortP l)
theorem addP_len (out : List ByteArray) (p : ByteArray) : (addP out p).length ≤ out.length + 1 := by
  unfold addP
  split
  · simp
  · split <;> simp
theorem redA_len (l : List ByteArray) : ∀ out, (redA out l).length ≤ out.length + l.length := by
  induction l with
  | nil => intro out; simp [redA]
  | cons p l ih =>
    intro out
    have h1 := ih (addP out p)
    have h2 := addP_len out p
    simp only [redA, List.length_cons]
    omega
theorem reduceS_len (l : List ByteArray) : (reduceS l).length ≤ l.length := by
  have h := redA_len (sortP l) []
  rw [(sortP_perm l).length_eq] at h
  unfold reduceS
  simpa using h
def shortP (l : List ByteArray) : Bool := decide (l.length ≤ 1048576) && l.all fun p => decide (p.size ≤ 65536)
theorem shortP_mem {l : List ByteArray} (h : shortP l = true) : l.length ≤ 1048576 ∧ ∀ p ∈ l, p.size ≤ 65536 := by
  unfold shortP at h
  simp only [Bool.and_eq_true, decide_eq_true_eq, List.all_eq_true] at h
  exact h
theorem shortP_mk {l : List ByteArray} (h1 : l.length ≤ 1048576) (h2 : ∀ p ∈ l, p.size ≤ 65536) : shortP l = true := by
  unfold shortP
  simp only [Bool.and_eq_true, decide_eq_true_eq, List.all_eq_true]
  exact ⟨h1, h2⟩
theorem shortP_app {a b : List ByteArray} (ha : shortP a = true) (hb : shortP b = true) (h : a.length + b.length ≤ 1048576) : shortP (a ++ b) = true :=
  shortP_mk (by rw [List.length_append]; exact h) (fun p hp => (List.mem_append.1 hp).elim ((shortP_mem ha).2 p) ((shortP_mem hb).2 p))
end Go.Proofs.YtkflalaocnghcaaDoor.Q

namespace Go.Proofs.YtkflalaocnghcaaDoorK
open Go Go.RowKit Go.Proofs.YtkflalaocnghcaaDoorW.PrintWords
/-! A world that came of another one by new blocks and draws alone: what was known there is known here. For printed texts, made shorter. -/
class Up (W W' : World) : Prop where
  out : Below W.heap.size W W'
variable {w W W' : World}
instance : Up W W := ⟨Below.refl _ _⟩
instance [h : Up W W'] (o : Obj) : Up W (W'.alloc o) := ⟨below_alloc h.out o⟩
instance [h : Up W W'] (n : Nat) : Up W (W'.drewN n) := ⟨pw_below_drewN h.out n⟩
instance [h : Up W W'] : Up W W'.drew := ⟨h.out.drew⟩
theorem belU (h : Below w.heap.size w W) [u : Up W W'] : Below w.heap.size w W' := below_step h u.out
theorem sizU (h : Below w.heap.size w W) [u : Up W W'] : w.heap.size ≤ W'.heap.size := (belU h).size
theorem blkU {g : Nat} {o : Obj} (h : W.heap[g]? = some o) [u : Up W W'] : W'.heap[g]? = some o := blk_below h u.out
theorem RU {α : Type} {d : Kd α} {e base : Nat} {ok : Nat → Prop} {v : Value} {xs : List α} (h : d.R e W base ok v xs) [u : Up W W'] : d.R e W' base ok v xs := Kd.R_below h u.out
theorem CU {α : Type} {d : Kd α} {A : Option Addr} {n : Nat} {xs : List α} (h : d.C W A n xs) [u : Up W W'] : d.C W' A n xs := Kd.C_below h u.out
/-- .. and by stores into block g. -/
class UpG (g : Nat) (W W' : World) : Prop where
  out : ∀ w : World, w.heap.size ≤ g → Below w.heap.size w W → Below w.heap.size w W'
instance (g : Nat) : UpG g W W := ⟨fun _ _ h => h⟩
instance (g : Nat) [h : UpG g W W'] (o : Obj) : UpG g W (W'.alloc o) := ⟨fun w a b => below_alloc (h.out w a b) o⟩
instance (g : Nat) [h : UpG g W W'] (n : Nat) : UpG g W (W'.drewN n) := ⟨fun w a b => pw_below_drewN (h.out w a b) n⟩
instance (g : Nat) [h : UpG g W W'] : UpG g W W'.drew := ⟨fun w a b => (h.out w a b).drew⟩
instance (g j : Nat) (v : Value) [h : UpG g W W'] : UpG g W (W'.setCell ⟨g, j, none⟩ v) := ⟨fun w a b => below_set (h.out w a b) a⟩
theorem belG {g : Nat} (h : Below w.heap.size w W) (hg : w.heap.size ≤ g) [u : UpG g W W'] : Below w.heap.size w W' := u.out w hg h
theorem sizG {g : Nat} (h : Below w.heap.size w W) (hg : w.heap.size ≤ g) [u : UpG g W W'] : w.heap.size ≤ W'.heap.size := (belG h hg).size
class UpG2 (g1 g2 : Nat) (W W' : World) : Prop where
  out : ∀ w : World, w.heap.size ≤ g1 → w.heap.size ≤ g2 → Below w.heap.size w W → Below w.heap.size w W'
instance (g1 g2 : Nat) : UpG2 g1 g2 W W := ⟨fun _ _ _ h => h⟩
instance (g1 g2 : Nat) [h : UpG2 g1 g2 W W'] (o : Obj) : UpG2 g1 g2 W (W'.alloc o) := ⟨fun w a1 a2 b => below_alloc (h.out w a1 a2 b) o⟩
instance (g1 g2 : Nat) [h : UpG2 g1 g2 W W'] (n : Nat) : UpG2 g1 g2 W (W'.drewN n) := ⟨fun w a1 a2 b => pw_below_drewN (h.out w a1 a2 b) n⟩
instance (g1 g2 : Nat) [h : UpG2 g1 g2 W W']  : UpG2 g1 g2 W W'.drew := ⟨fun w a1 a2 b => (h.out w a1 a2 b).drew⟩
instance (g1 g2 j : Nat) (v : Value) [h : UpG2 g1 g2 W W'] : UpG2 g1 g2 W (W'.setCell ⟨g1, j, none⟩ v) := ⟨fun w a1 a2 b => below_set (h.out w a1 a2 b) a1⟩
instance (g1 g2 j : Nat) (v : Value) [h : UpG2 g1 g2 W W'] : UpG2 g1 g2 W (W'.setCell ⟨g2, j, none⟩ v) := ⟨fun w a1 a2 b => below_set (h.out w a1 a2 b) a2⟩
theorem belG2 {g1 g2 : Nat} (h : Below w.heap.size w W) (h1 : w.heap.size ≤ g1) (h2 : w.heap.size ≤ g2) [u : UpG2 g1 g2 W W'] : Below w.heap.size w W' := u.out w h1 h2 h
class UpG3 (g1 g2 g3 : Nat) (W W' : World) : Prop where
  out : ∀ w : World, w.heap.size ≤ g1 → w.heap.size ≤ g2 → w.heap.size ≤ g3 → Below w.heap.size w W → Below w.heap.size w W'
instance (g1 g2 g3 : Nat) : UpG3 g1 g2 g3 W W := ⟨fun _ _ _ _ h => h⟩
instance (g1 g2 g3 : Nat) [h : UpG3 g1 g2 g3 W W'] (o : Obj) : UpG3 g1 g2 g3 W (W'.alloc o) := ⟨fun w a1 a2 a3 b => below_alloc (h.out w a1 a2 a3 b) o⟩
instance (g1 g2 g3 : Nat) [h : UpG3 g1 g2 g3 W W'] (n : Nat) : UpG3 g1 g2 g3 W (W'.drewN n) := ⟨fun w a1 a2 a3 b => pw_below_drewN (h.out w a1 a2 a3 b) n⟩
instance (g1 g2 g3 : Nat) [h : UpG3 g1 g2 g3 W W']  : UpG3 g1 g2 g3 W W'.drew := ⟨fun w a1 a2 a3 b => (h.out w a1 a2 a3 b).drew⟩
instance (g1 g2 g3 j : Nat) (v : Value) [h : UpG3 g1 g2 g3 W W'] : UpG3 g1 g2 g3 W (W'.setCell ⟨g1, j, none⟩ v) := ⟨fun w a1 a2 a3 b => below_set (h.out w a1 a2 a3 b) a1⟩
instance (g1 g2 g3 j : Nat) (v : Value) [h : UpG3 g1 g2 g3 W W'] : UpG3 g1 g2 g3 W (W'.setCell ⟨g2, j, none⟩ v) := ⟨fun w a1 a2 a3 b => below_set (h.out w a1 a2 a3 b) a2⟩
instance (g1 g2 g3 j : Nat) (v : Value) [h : UpG3 g1 g2 g3 W W'] : UpG3 g1 g2 g3 W (W'.setCell ⟨g3, j, none⟩ v) := ⟨fun w a1 a2 a3 b => below_set (h.out w a1 a2 a3 b) a3⟩
theorem belG3 {g1 g2 g3 : Nat} (h : Below w.heap.size w W) (h1 : w.heap.size ≤ g1) (h2 : w.heap.size ≤ g2) (h3 : w.heap.size ≤ g3) [u : UpG3 g1 g2 g3 W W'] : Below w.heap.size w W' := u.out w h1 h2 h3 h
/-- .. and by stores into another block than g. -/
class FarG (g g' : Nat) (W W' : World) : Prop where
  out : g ≠ g' → ∀ o : Obj, W.heap[g]? = some o → W'.heap[g]? = some o
instance (g g' : Nat) : FarG g g' W W := ⟨fun _ _ h => h⟩
instance (g g' : Nat) [h : FarG g g' W W'] (o : Obj) : FarG g g' W (W'.alloc o) := ⟨fun n x a => blk_alloc (h.out n x a) o⟩
instance (g g' : Nat) [h : FarG g g' W W'] (n : Nat) : FarG g g' W (W'.drewN n) := ⟨fun m x a => blk_drewN (h.out m x a) n⟩
instance (g g' : Nat) [h : FarG g g' W W'] : FarG g g' W W'.drew := ⟨fun n x a => blk_drew (h.out n x a)⟩
instance (g g' j : Nat) (v : Value) [h : FarG g g' W W'] : FarG g g' W (W'.setCell ⟨g', j, none⟩ v) := ⟨fun n x a => (Below.heap_setCell W' ⟨g', j, none⟩ v g n).trans (h.out n x a)⟩
theorem blkF {g g' : Nat} {o : Obj} (h : W.heap[g]? = some o) (n : g ≠ g') [u : FarG g g' W W'] : W'.heap[g]? = some o := u.out n o h
/-- .. and the cells of block g, stored into one by one. -/
class PutG (g : Nat) (W W' : World) (f : outParam (List Value → List Value)) : Prop where
  out : ∀ (cs : Array Value) (t : TypeId), W.heap[g]? = some (.cells cs t (0, 0)) → W'.heap[g]? = some (.cells (f cs.toList).toArray t (0, 0))
section
variable {f : List Value → List Value}
instance (g : Nat) : PutG g W W (fun cs => cs) := ⟨fun _ _ h => h⟩
instance (g : Nat) [h : PutG g W W' f] (o : Obj) : PutG g W (W'.alloc o) f := ⟨fun cs t a => blk_alloc (h.out cs t a) o⟩
instance (g : Nat) [h : PutG g W W' f] (n : Nat) : PutG g W (W'.drewN n) f := ⟨fun cs t a => blk_drewN (h.out cs t a) n⟩
instance (g : Nat) [h : PutG g W W' f] : PutG g W W'.drew f := ⟨fun cs t a => blk_drew (h.out cs t a)⟩
instance (g j : Nat) (v : Value) [h : PutG g W W' f] : PutG g W (W'.setCell ⟨g, j, none⟩ v) (fun cs => (f cs).set j v) := ⟨fun cs t a => by
  have := blk_set (h.out cs t a) j v
  rwa [List.setIfInBounds_toArray] at this⟩
theorem blkP {g : Nat} {t : TypeId} {cs cs' : Array Value} (h : W.heap[g]? = some (.cells cs t (0, 0))) [u : PutG g W W' f] (e : f cs.toList = cs'.toList) : W'.heap[g]? = some (.cells cs' t (0, 0)) := by
  have := u.out cs t h
  rw [e] at this
  exact this
end
end Go.Proofs.YtkflalaocnghcaaDoorK

namespace Go.Proofs.YtkflalaocnghcaaDoorK
open Go Go.RowKit Go.Proofs.YtkflalaocnghcaaDoorW.PrintWords
/-! A slice in memory of the call's own that is only read: its row may be longer than its capacity ('l[:n:n]' of a longer row). -/
def SR {α : Type} (d : Kd α) (e : Nat) (w : World) (base : Nat) (ok : Nat → Prop) (v : Value) (xs : List α) : Prop :=
  (∀ k, v.ownBlock = some k → ok k ∧ base ≤ k ∧ k < w.heap.size) ∧ ∃ A c, v = .slice A xs.length c ∧ xs.length ≤ c ∧ d.C w A xs.length xs
section
variable {α : Type} {d : Kd α} {e : Nat} {w w1 : World} {base : Nat} {ok ok' : Nat → Prop} {v u : Value} {xs : List α}
theorem SR_ofR (h : d.R e w base ok v xs) : SR d e w base ok v xs := ⟨fun k hk => ⟨h.1 k hk, Kd.R_base h k hk, Kd.R_lt h k hk⟩, Kd.R_reads h⟩
theorem SR_nil (d : Kd α) (e : Nat) (w : World) (base : Nat) (ok : Nat → Prop) : SR d e w base ok (.slice none 0 0) [] := SR_ofR (Kd.R_nil d e w base ok)
theorem SR_mono (h : SR d e w base ok v xs) (hok : ∀ k, ok k → ok' k) : SR d e w base ok' v xs := ⟨fun k hk => ⟨hok k (h.1 k hk).1, (h.1 k hk).2⟩, h.2⟩
theorem SR_below (h : SR d e w base ok v xs) (hb : Below w.heap.size w w1) : SR d e w1 base ok v xs := by
  obtain ⟨h1, A, c, h2, h3, h4⟩ := h
  exact ⟨fun k hk => ⟨(h1 k hk).1, (h1 k hk).2.1, Nat.lt_of_lt_of_le (h1 k hk).2.2 hb.size⟩, A, c, h2, h3, Kd.C_below h4 hb⟩
/-- Either kind of a row tells the weaker one. -/
class ToS (p : Prop) (q : outParam Prop) : Prop where
  out : p → q
instance : ToS (d.R e w base ok v xs) (SR d e w base ok v xs) := ⟨SR_ofR⟩
instance : ToS (SR d e w base ok v xs) (SR d e w base ok v xs) := ⟨id⟩
section
variable {p : Prop}
theorem S_lower {base' : Nat} [t : ToS p (SR d e w base ok v xs)] (h : p) (hb : base' ≤ base) : SR d e w base' ok v xs := ⟨fun k hk => ⟨((t.out h).1 k hk).1, Nat.le_trans hb ((t.out h).1 k hk).2.1, ((t.out h).1 k hk).2.2⟩, (t.out h).2⟩
theorem S_below [t : ToS p (SR d e w base ok v xs)] (h : p) (hb : Below w.heap.size w w1) : SR d e w1 base ok v xs := SR_below (t.out h) hb
theorem S_base [t : ToS p (SR d e w base ok v xs)] (h : p) : ∀ k, v.ownBlock = some k → base ≤ k := fun k hk => ((t.out h).1 k hk).2.1
theorem S_lt [t : ToS p (SR d e w base ok v xs)] (h : p) : ∀ k, v.ownBlock = some k → k < w.heap.size := fun k hk => ((t.out h).1 k hk).2.2
theorem S_elder' [t : ToS p (SR d e w base ok u xs)] (hu : p) (hbase : ∀ k, v.ownBlock = some k → w.heap.size ≤ k) (hb : Below w.heap.size w w1) : SR d e w1 base (fun k => ok k ∧ some k ≠ v.ownBlock) u xs := by
  obtain ⟨h1, h2⟩ := SR_below (t.out hu) hb
  refine ⟨fun k hk => ⟨⟨(h1 k hk).1, fun he => ?_⟩, (h1 k hk).2⟩, h2⟩
  have a := hbase k he.symm
  have b := ((t.out hu).1 k hk).2.2
  omega
theorem S_new' {W : World} [t : ToS p (SR d e w1 W.heap.size ok v xs)] (h : p) (hlt : ∀ k, u.ownBlock = some k → k < W.heap.size) : SR d e w1 W.heap.size (fun k => ok k ∧ some k ≠ u.ownBlock) v xs := by
  obtain ⟨h1, h2⟩ := t.out h
  refine ⟨fun k hk => ⟨⟨(h1 k hk).1, fun he => ?_⟩, (h1 k hk).2⟩, h2⟩
  have a := hlt k he.symm
  have b := (h1 k hk).2.1
  omega
theorem S_slice [t : ToS p (SR d e w base ok v xs)] (h : p) : ∃ A c, v = .slice A xs.length c := by
  obtain ⟨_, A, c, h2, _⟩ := t.out h
  exact ⟨A, c, h2⟩
theorem S_reads' {A : Option Addr} {n c : Nat} [t : ToS p (SR d e w base ok (.slice A n c) xs)] (h : p) : n = xs.length ∧ n ≤ c ∧ d.C w A xs.length xs := by
  obtain ⟨_, A', c', he, hl, hr⟩ := t.out h
  injection he with h1 h2 h3
  subst h1
  exact ⟨h2, by omega, hr⟩
theorem SU {W W' : World} [t : ToS p (SR d e W base ok v xs)] (h : p) [up : Up W W'] : SR d e W' base ok v xs := SR_below (t.out h) up.out
theorem S_alloc [t : ToS p (SR d e w base ok v xs)] (h : p) (o : Obj) : SR d e (w.alloc o) base ok v xs := SR_below (t.out h) (below_alloc (Below.refl _ _) o)
theorem S_drew [t : ToS p (SR d e w base ok v xs)] (h : p) : SR d e w.drew base ok v xs := SR_below (t.out h) (below_drew (Below.refl _ _))
theorem S_drewN [t : ToS p (SR d e w base ok v xs)] (h : p) (m : Nat) : SR d e (w.drewN m) base ok v xs := SR_below (t.out h) (pw_below_drewN (Below.refl _ _) m)
theorem S_mono [t : ToS p (SR d e w base ok v xs)] (h : p) (hok : ∀ k, ok k → ok' k) : SR d e w base ok' v xs := SR_mono (t.out h) hok
end
end
end Go.Proofs.YtkflalaocnghcaaDoorK

namespace Go.Proofs.YtkflalaocnghcaaDoor.Q
open Go Go.Proofs Go.Shelf Go.RowKit Go.Lib Go.Sort Go.Proofs.YtkflalaocnghcaaDoorP Go.Proofs.YtkflalaocnghcaaDoorK Go.Proofs.YtkflalaocnghcaaDoorW.PrintWords Go.Proofs.YtkflalaocnghcaaDoorW.PrintLast Go.Proofs.YtkflalaocnghcaaDoorW.PrintMore
set_option linter.unusedSimpArgs false
set_option linter.unusedVariables false
/-! ### scope.reduce -/
abbrev BA := {x : ByteArray // x.size ≤ 65536}
instance : Inhabited BA := ⟨⟨ByteArray.empty, by decide⟩⟩
def encB (x : BA) : Value := .string x.1
theorem lays_cmp (blk off size : Nat) (w : World) : CmpLays1 Tryd.prog 32 #[] encB (fun x y : BA => pcmp x.1 y.1) blk off size w :=
  fun _ _ _ _ x y => cmp_any _ x.1 y.1 (by have := x.2; omega) (by have := y.2; omega)
theorem sort_strs {W : World} {g n cap : Nat} {cur : Array Value} {xs : List ByteArray} (hg : W.heap[g]? = some (.cells cur 9 (0, 0))) (hn : n = xs.length) (hcs : n ≤ cur.size) (hc : ∀ (j : Nat) (p : ByteArray), xs[j]? = some p → cur[j]? = some (Value.string p)) (hs : shortP xs = true) :
    Calls Tryd.prog 44 #[.slice (some ⟨g, 0, none⟩) n cap, .func (.func 32) #[] #[]] W fun e w' => e = .returned (.tuple #[]) ∧ ∃ cur', w'.heap[g]? = some (.cells cur' 9 (0, 0)) ∧ cur'.size = cur.size ∧ (∀ (j : Nat) (p : ByteArray), (sortP xs)[j]? = some p → cur'[j]? = some (Value.string p)) ∧ W.grownBy w' (some g) := by
  obtain ⟨hl, hsm⟩ := shortP_mem hs
  obtain ⟨d, hd⟩ : ∃ d : Array BA, d.toList.map (·.1) = xs := ⟨(xs.attach.map fun x => (⟨x.1, hsm x.1 x.2⟩ : BA)).toArray, by simp⟩
  have hsz : d.size = xs.length := by rw [← hd]; simp
  have hblk := blk_lt hg
  have hget : ∀ (e : Array BA) (ys : List ByteArray), e.toList.map (·.1) = ys → ∀ j, j < e.size → ys[j]? = some (e[j]!).1 := by
    intro e ys he j hj
    rw [← he, List.getElem?_map, List.getElem?_eq_getElem (by simpa using hj), getElem!_pos e j hj]
    simp
  have hH : Go.Sort.Holds encB W g 0 d := fun j hj => by
    refine ⟨?_, blk_frozen hg _⟩
    rw [blk_cell hg, Nat.zero_add]
    exact hc j _ (hget d xs hd j hj)
  have eg : ∀ args w, (callFunc 32 args).run Tryd.prog w = .ok (.enter 32 args) w := enters_of Tryd.func32 (by kernel_rfl) rfl
  have hcon := Any.slices_SortFunc laySort encB (fun _ => rfl) (fun x y : BA => pcmp x.1 y.1) (swo_key good_path (fun x : BA => x.1)) 32 #[] g 0 cap d W eg (lays_cmp g 0 d.size W) hH hblk (by omega)
  rw [hsz, ← hn] at hcon
  change Calls Tryd.prog 44 _ _ _ at hcon
  refine hcon.mono ?_
  rintro e w' ⟨rfl, d', m, os, hp, hso, rfl⟩
  have hp' : PermIn 0 d.size d d' := by rw [hsz, ← hn]; exact hp
  have hso' : SortedIn (ltOf fun x y : BA => pcmp x.1 y.1) 0 d.size d' := by rw [hsz, ← hn]; exact hso
  obtain ⟨q1, q2⟩ := sorted_list _ d d' hp' hso'
  have hone : d'.toList.map (·.1) = sortP xs := by
    refine sortP_one (by rw [← hd]; exact q1.map _) ?_
    rw [List.pairwise_map]
    refine q2.imp (fun {a b} hab => ?_)
    simp only [ltOf, decide_eq_false_iff_not] at hab
    exact hab
  have hd's : d'.size = xs.length := by rw [← hsz]; exact hp'.1
  have hblk' : (sortWorld encB W g 0 m d' os).heap[g]? = some (.cells (putCells encB 0 d' cur) 9 (0, 0)) := by
    unfold sortWorld grow putRow mapBlock
    simp only
    rw [Array.getElem?_append_left (by simpa [Sort.ahead] using hblk), Array.getElem?_modify]
    simp only [Sort.ahead, if_true, hg, Option.map_some]
    rfl
  refine ⟨rfl, _, hblk', by unfold putCells; rw [Array.size_mapIdx], ?_, rfl, rfl, rfl, ?_, ?_⟩
  · intro j p hj
    rw [← hone] at hj
    have hjl : j < d'.size := by
      have := (List.getElem?_eq_some_iff.1 hj).1
      simpa using this
    have hj2 := hget d' _ rfl j hjl
    rw [hj] at hj2
    injection hj2 with hj2
    have htc : j < cur.size := by omega
    unfold putCells
    rw [Array.getElem?_mapIdx, Array.getElem?_eq_getElem htc, Option.map_some, if_pos ⟨Nat.zero_le _, by omega⟩]
    show some (Value.string (d'[j - 0]!).1) = _
    rw [Nat.sub_zero, hj2]
  · unfold sortWorld grow putRow mapBlock
    simp [Sort.ahead]
  · intro k hk hne
    have hkg : g ≠ k := fun e => hne (by rw [e])
    unfold sortWorld grow putRow mapBlock
    simp only
    rw [Array.getElem?_append_left (by simpa [Sort.ahead] using hk), Array.getElem?_modify, if_neg hkg]
    rfl
set_option maxHeartbeats 1000000 in
/-- slices.Clone of a row that is read: a row of its own. -/
theorem clone_any (w : World) (A : Option Addr) (c : Nat) (l : List ByteArray) (hC : Kd.C Kd.string w A l.length l) (hl : l.length ≤ 1048576) :
    Calls Tryd.prog 43 #[.slice A l.length c] w fun e w' => ∃ v, e = .returned v ∧ Kd.R Kd.string 9 w' w.heap.size (fun _ => True) v l ∧ Below w.heap.size w w' := by
  have q22 : ∀ (w : World) (a : Option Addr) (n c n' c' : Nat), (binOp .eql 22 (.slice a n c) (.slice none n' c')).run Tryd.prog w = .ok (.bool a.isNone) w := fun w a n c n' c' => Lib.run_eql_slice_nil w _ _ a n c n' c' Tryd.underlying22
  have hu22 : ∀ w, Sem.run Tryd.prog (underlying 22) w = .ok (TypeDesc.slice 9) w := run_underlying Tryd.underlying22
  cases A with
  | none =>
    have h0 : l = [] := by
      rcases Nat.eq_zero_or_pos l.length with h | h
      · exact List.eq_nil_of_length_eq_zero h
      · obtain ⟨a, he, _⟩ := hC.2.2 h
        cases he
    subst h0
    clear hC
    go_enter Tryd.func43, Tryd.ntmps43
    go_wp2_with fail
    go_ret
    exact ⟨_, rfl, Kd.R_nil _ _ _ _ _, bel _ _⟩
  | some ad =>
    have HR := Aside0.mk hC
    clear hC
    have HB := Aside0.mk (Below.refl w.heap.size w)
    go_enter Tryd.func43, Tryd.ntmps43
    go_wp2_with (first
      | ((with_reducible refine gate_dst (N := 5) rfl ?_); refine Kd.R_lit Kd.string _ 9 ?hg (N := 5) ?hd (xs := ([] : List ByteArray)) (inner := []) (ok := fun _ => True) (okp := fun _ => True) ?hr ?hp (fun _ hk => hk) trivial (Below.refl _ _) (Nat.le_refl _) (by simp) ?_; (case hd => rfl); (case hg => rfl); (case hr => first | (go_simp; done) | (go_simp; rfl)); (case hp => exact (Reps.none _ _)); intro v5 w5 ho5 hb5 hg5 hnew5; clear hg5 hnew5; have HO5 := Aside0.mk ho5; have HB5 := Aside0.mk hb5; clear ho5 hb5)
      | ((with_reducible refine gate_builtin (b := .append) (xs := #[.tmp 5, .tmp 6]) rfl ?_); at_builtin; refine Kd.R_append_rows Kd.string (w0 := w) w.heap.size rfl (.tmp 5) (.tmp 6) 22 9 (.string ⟨#[]⟩) 16 rfl Tryd.underlying22 info9 rfl (by decide) (by omega) v5 ([] : List ByteArray) l _ _ _ (fun _ => True) (fun _ => False) rfl rfl ?aO ?aR (fun _ _ h => h) (fun _ h => h.elim) ?aF ?aB ?aS ?aL ?_; (case aR => exact Kd.C_below HR.out HB5.out); (case aB => exact HB5.out); (case aF => exact (fun _ _ => trivial)); (case aO => exact HO5.out); (case aS => exact HB5.out.size); (case aL => simp; omega); intro v6 w6 ho6 hb6 hg6 hat6; have HO6 := Aside0.mk ho6; have HB6 := Aside0.mk hb6; clear ho6 hb6 hg6 hat6))
    go_ret
    exact ⟨_, rfl, HO6.out, HB6.out⟩
/-- A slice in place is made longer by one element of one cell. -/
theorem append_room {P : Program} {ops : Array Oper} {rest : List Oper} {o : Oper} {a : Act} {W : World} {Q : Exit → Act → World → Prop} (hgd : o.guard = none) (s x : Operand) (t : TypeId) (ho : o.op = .call { callee := .builtin .append, args := #[s, x], argTypes := #[t, t] })
    {e : TypeId} {i : TypeInfo} (ht : P.underlying t = some (.slice e)) (hi : P.info? e = some i) (hsz : i.size = 1) {g n cap : Nat} (hs : a.eval s = .slice (some ⟨g, 0, none⟩) n cap) (hroom : n + 1 ≤ cap) {b c : Nat} (hx : a.eval x = .slice (some ⟨b, 0, none⟩) 1 c) (v : Value)
    (hv : W.cell? ⟨b, 0, none⟩ = some v) (h1 : v.oneCell' = true) (hc : (W.cell? ⟨g, n, none⟩).isSome = true) (hf : W.frozen? ⟨g, n, none⟩ = false)
    (h : wpList P ops Q rest (a.put o.dst (.slice (some ⟨g, 0, none⟩) (n + 1) cap)) (W.setCell ⟨g, n, none⟩ v)) : wpList P ops Q (o :: rest) a W := by
  have hr := run_append_room_cells (P := P) (w := W) t o.type e i ht hi g 0 n cap ⟨b, 0, none⟩ 1 c [v] (by rw [hsz]; rfl) (fun j u hj => by
    cases j with
    | zero => simp at hj; subst hj; exact hv
    | succ j => simp at hj) (fun u hu => by simp at hu; subst hu; exact h1) hroom (fun j hj => by
    have : j = 0 := by simpa using hj
    subst this
    rw [hsz]; simpa using hc) (fun j hj => by
    have : j = 0 := by simpa using hj
    subst this
    rw [hsz]; simpa using hf)
  rw [hsz] at hr
  have e0 : W.setCells g (0 + n * 1) [v] = W.setCell ⟨g, n, none⟩ v := by simp [World.setCells]
  rw [e0] at hr
  exact Kd.event_run hgd (by unfold execOp; simp [ho, resolve, invoke, builtin, hs, hx, hr, Result.andThen]) h
/-- What the row is, ahead of the i-th element: what is kept at its head, what is still to be asked from i on. -/
def Half (cur : Array Value) (out s : List ByteArray) (i : Nat) : Prop :=
  s.length ≤ cur.size ∧ out.length ≤ i ∧ (∀ (j : Nat) (p : ByteArray), out[j]? = some p → cur[j]? = some (Value.string p)) ∧ (∀ (j : Nat) (p : ByteArray), i ≤ j → s[j]? = some p → cur[j]? = some (Value.string p))
theorem Half.skip {cur : Array Value} {out s : List ByteArray} {i : Nat} (h : Half cur out s i) : Half cur out s (i + 1) := ⟨h.1, by have := h.2.1; omega, h.2.2.1, fun j p hj => h.2.2.2 j p (by omega)⟩
theorem Half.add {cur : Array Value} {out s : List ByteArray} {i : Nat} (h : Half cur out s i) (hi : i < s.length) (p : ByteArray) : Half (cur.setIfInBounds out.length (.string p)) (out ++ [p]) s (i + 1) := by
  obtain ⟨h1, h2, h3, h4⟩ := h
  refine ⟨by simpa using h1, by simp; omega, fun j q hj => ?_, fun j q hj hq => ?_⟩
  · rw [Array.getElem?_setIfInBounds]
    by_cases he : out.length = j
    · subst he
      rw [if_pos rfl, if_pos (by omega)]
      rw [List.getElem?_append_right (Nat.le_refl _)] at hj
      simp at hj
      rw [hj]
    · rw [if_neg he]
      have hjl := (List.getElem?_eq_some_iff.1 hj).1
      rw [List.length_append, List.length_singleton] at hjl
      rw [List.getElem?_append_left (by omega)] at hj
      exact h3 j q hj
  · rw [Array.getElem?_setIfInBounds, if_neg (by omega)]
    exact h4 j q (by omega) hq
theorem within_c (W : World) (d p : ByteArray) (hp : p.size ≤ 65536) : Calls Tryd.prog 33 #[.string d, .string p] W fun e w' => e = .returned (.bool (withinS d p)) ∧ Below W.heap.size W w' := by
  have hb := fun W => Below_any W d p hp
  unfold withinS
  have HB := Aside0.mk hb
  clear hb
  cases h : (p.toList == d.toList) with
  | true =>
    go_enter Tryd.func33, Tryd.ntmps33
    go_wp2_with fail
    go_ret
    exact ⟨rfl, bel _ _⟩
  | false =>
    go_enter Tryd.func33, Tryd.ntmps33
    go_wp2_with fail
    refine (HB.out _).mono ?_
    rintro e w1 ⟨rfl, hb⟩
    go_wp2_with fail
    go_ret
    exact ⟨rfl, hb⟩
theorem str_open {W : World} {base : Nat} {v : Value} {xs : List ByteArray} (h : Kd.R Kd.string 9 W base (fun _ => True) v xs) :
    (v = .slice none 0 0 ∧ xs = []) ∨ ∃ g cap cur, v = .slice (some ⟨g, 0, none⟩) xs.length cap ∧ base ≤ g ∧ W.heap[g]? = some (.cells cur 9 (0, 0)) ∧ xs.length ≤ cap ∧ cap ≤ maxLen ∧ cur.size = cap ∧ ∀ (j : Nat) (p : ByteArray), xs[j]? = some p → cur[j]? = some (Value.string p) := by
  obtain ⟨_, inner, ⟨hlen, hor⟩, hrep⟩ := h
  rcases hor with ⟨he, h0⟩ | ⟨g, cap, cur, he, hb, hg, hnc, hcm, hcs, htk⟩
  · exact .inl ⟨he, List.eq_nil_of_length_eq_zero h0⟩
  · refine .inr ⟨g, cap, cur, he, hb, hg, hnc, hcm, by rw [hcs]; exact Nat.mul_one _, fun j p hj => ?_⟩
    have hp := hrep.2 j p hj
    have hk : (inner.drop (j * 1)).take 1 = [Value.string p] := Kd.string.K_of_M hp
    rw [Nat.mul_one] at hk
    have hjl := (List.getElem?_eq_some_iff.1 hj).1
    have e1 : inner[j]? = some (Value.string p) := by
      have := congrArg (fun l => l[0]?) hk
      simpa using this
    rw [← e1, ← htk, List.getElem?_take, if_pos (by show j < xs.length * 1; omega)]
    simp
theorem sr_mk {W : World} {base g n cap : Nat} {cur : Array Value} {xs : List ByteArray} (hb : base ≤ g) (hg : W.heap[g]? = some (.cells cur 9 (0, 0))) (hn : n = xs.length) (hc : n ≤ cap) (hl : xs.length ≤ 1048576) (h : ∀ (j : Nat) (p : ByteArray), xs[j]? = some p → cur[j]? = some (Value.string p)) :
    SR Kd.string 9 W base (fun _ => True) (.slice (some ⟨g, 0, none⟩) n cap) xs := by
  subst hn
  refine ⟨fun k hk => ?_, _, _, rfl, hc, rfl, by omega, fun _ => ⟨_, rfl, fun j p hj => ⟨[.string p], rfl, rfl, fun i u hi => ?_⟩⟩⟩
  · simp [Value.ownBlock] at hk
    subst hk
    exact ⟨trivial, hb, blk_lt hg⟩
  · cases i with
    | zero =>
      simp at hi
      subst hi
      rw [Addr.add_lit]
      show W.cell? ⟨g, 0 + (j * 1 + 0), none⟩ = _
      rw [blk_cell hg]
      have := h j p hj
      simpa using this
    | succ i => simp at hi
theorem alloc_cell (W : World) (o : Obj) (p : Addr) (h : p.block < W.heap.size) : (W.alloc o).cell? p = W.cell? p := ((Below.refl W.heap.size W).alloc (Nat.le_refl _) o).cell h
theorem alloc_frozen (W : World) (o : Obj) (p : Addr) (h : p.block < W.heap.size) : (W.alloc o).frozen? p = W.frozen? p := ((Below.refl W.heap.size W).alloc (Nat.le_refl _) o).frozen h
attribute [local go_sem] cell_held frozen_held
set_option maxRecDepth 100000 in
set_option maxHeartbeats 4000000 in
theorem reduce_any (w : World) (A : Option Addr) (c : Nat) (l : List ByteArray) (hC : Kd.C Kd.string w A l.length l) (hs : shortP l = true) :
    Calls Tryd.prog 29 #[.slice A l.length c] w fun e w' => ∃ v, e = .returned v ∧ SR Kd.string 9 w' w.heap.size (fun _ => True) v (reduceS l) ∧ Below w.heap.size w w' := by
  obtain ⟨i0, hi0, hz0, hz1, hz2⟩ := info_parts info9
  have hI := Aside0.mk hi0
  have hZ := Aside0.mk hz1
  have hcl := clone_any w A c l hC (shortP_mem hs).1
  have HCL := Aside0.mk hcl
  have HS := Aside0.mk hs
  obtain ⟨R, hRd⟩ : ∃ R, reduceS l = R := ⟨_, rfl⟩
  have hRlen := reduceS_len l
  rw [hRd] at hRlen ⊢
  unfold reduceS at hRd
  have hRd := Aside0.mk hRd
  have HRL := Aside0.mk hRlen
  clear hcl hC hs hi0 hz0 hz1 hz2 hRlen
  go_enter Tryd.func29, Tryd.ntmps29
  go_wp2_with fail
  refine HCL.out.mono ?_
  rintro e w1 ⟨v, rfl, hR, hb1⟩
  rcases str_open hR with ⟨rfl, rfl⟩ | ⟨g, cap, cur, rfl, hg0, hg, hn, hcm, hcs, hcc⟩
  · have hnone := fun W => AnyF.slices_SortFunc_none { laySort with } none 0 (.func (.func 32) #[] #[]) W
    change ∀ W, Calls Tryd.prog 44 _ W _ at hnone
    have HN := Aside0.mk hnone
    have HB := Aside0.mk hb1
    clear hnone hR hb1 HCL
    go_wp2_with fail
    refine (HN.out _).mono ?_
    rintro e w2 ⟨rfl, rfl⟩
    go_wp2_with fail
    go_loopw [3, 16] (fun o i wr => o = .slice none 0 0 ∧ i = .int .i64 0 ∧ Aside0 (wr = w2)) (fun _ _ _ => 0)
    case atStart => exact ⟨rfl, rfl, ⟨rfl⟩⟩
    case round =>
      obtain ⟨rfl, rfl, HW⟩ := hrel
      have hw := HW.out
      subst hw
      go_wp2_with fail
      go_ret
      have e0 : R = [] := hRd.out.symm
      subst e0
      exact ⟨_, rfl, SR_nil _ _ _ _ _, HB.out⟩
  · have hsort := sort_strs (cap := cap) hg rfl (by omega) hcc HS.out
    have hcs0 := Aside0.mk hcs
    have HN := Aside0.mk hsort
    have HB := Aside0.mk hb1
    have hlen := (shortP_mem HS.out).1
    have hsz := (shortP_mem HS.out).2
    have HL := Aside0.mk hlen
    have hn0 : (0 : Int) ≤ (l.length : Int) := by omega
    have hn1 : (l.length : Int) ≤ (cap : Int) := by omega
    have hslen := (sortP_perm l).length_eq
    have hsmem : ∀ p ∈ sortP l, p.size ≤ 65536 := fun p hp => hsz p ((sortP_perm l).mem_iff.1 hp)
    generalize sortP l = s at hRd HN hslen hsmem
    have HSM := Aside0.mk hsmem
    have HSL := Aside0.mk hslen
    clear hsort hb1 hR HCL hg hcs hcc hlen hsz hslen hsmem
    go_wp2_with fail
    refine HN.out.mono ?_
    rintro e w2 ⟨rfl, cur', hg', hcs', hcc', hgr⟩
    have HG := Aside0.mk hg'
    have HC' := Aside0.mk hcc'
    have hb2 := below_box HB.out hgr hg0
    have HB2 := Aside0.mk hb2
    have hH0 : Aside0 (Half cur' [] s 0) := ⟨by rw [HSL.out]; rw [hcs', hcs0.out]; exact hn, Nat.le_refl _, fun j p hj => by simp at hj, fun j p _ hj => HC'.out j p hj⟩
    clear hg' hcs' hcc' hgr HB hb2 HN
    go_wp2_with fail
    go_loopw [3, 16] (fun o i wr => ∃ (k : Nat) (out : List ByteArray) (cur : Array Value), k ≤ l.length ∧ o = .slice (some ⟨g, 0, none⟩) out.length l.length ∧ i = .int .i64 (k : Int) ∧ Aside0 (Half cur out s k) ∧ Aside0 (wr.heap[g]? = some (.cells cur 9 (0, 0))) ∧ Aside0 (redA out (s.drop k) = R) ∧ Aside0 (Below w.heap.size w wr)) (fun _ i _ => l.length - (intOf i).toNat)
    case atStart => exact ⟨0, [], cur', Nat.zero_le _, rfl, rfl, hH0, HG, hRd, HB2⟩
    case round =>
      clear HG HB2 hH0 hRd
      obtain ⟨k, out, cur2, hk, rfl, rfl, HH, HG, HR, HB⟩ := hrel
      have hlb := HL.out
      by_cases hlt : k < l.length
      · have hks : k < s.length := by rw [HSL.out]; exact hlt
        have x0 : wr.cell? ⟨g, k, none⟩ = some (.string s[k]) := by
          rw [blk_cell HG.out]
          exact HH.out.2.2.2 k _ (Nat.le_refl _) (List.getElem?_eq_getElem hks)
        have hpk := HSM.out _ (List.getElem_mem hks)
        have hR := HR.out
        rw [List.drop_eq_getElem_cons hks] at hR
        simp only [redA] at hR
        have HADD := Aside0.mk (HH.out.add hks s[k])
        have hol := HH.out.2.1
        generalize s[k] = p at x0 hpk hR HADD
        have HPK := Aside0.mk hpk
        have hh : Holds wr g (.cells cur2 9) := ⟨HG.out⟩
        have bw : Bel w.heap.size w wr := ⟨fun _ => HB.out⟩
        have ow : OwnB w.heap.size (.row g) := own_row hg0
        have hgw : g < wr.heap.size := blk_lt HG.out
        have hgs : (wr.cell? ⟨g, out.length, none⟩).isSome = true := by
          rw [blk_cell HG.out]
          have := HH.out.1
          rw [HSL.out] at this
          simp
          omega
        have HGS := Aside0.mk hgs
        have HGF := Aside0.mk (blk_frozen HG.out out.length)
        clear hpk hgs hks
        have hgw' := hgw
        rcases List.eq_nil_or_concat out with h0 | ⟨o, q, h0⟩
        · subst h0
          simp only [addP, List.getLast?_nil] at hR
          have HR := Aside0.mk hR
          clear hR
          have hap : Apart g (.row wr.heap.size) := apart_ne (by omega)
          go_wp2_with ((with_reducible refine gate_builtin (b := .append) (xs := #[.tmp 34, .tmp 36]) rfl ?_); go_loud (at_builtin; refine append_room rfl (.tmp 34) (.tmp 36) 22 rfl Tryd.underlying22 hI.out hZ.out (g := g) (n := 0) (cap := l.length) rfl (by omega) (b := wr.heap.size) (c := 1) rfl (.string p) ?hv rfl ?hc ?hf ?_; (case hv => exact cell_held.trans rfl); (case hc => rw [alloc_cell _ _ _ hgw]; exact HGS.out); (case hf => rw [alloc_frozen _ _ _ hgw]; exact HGF.out)))
          go_roundw
          case rel => exact ⟨k + 1, [p], cur2.setIfInBounds 0 (.string p), by omega, rfl, by go_num, HADD, ⟨held⟩, HR, ⟨bel _ _⟩⟩
          case measure => simp [intOf]; omega
        · have hlen : out.length = o.length + 1 := by rw [h0]; simp
          have hlast : out.getLast? = some q := by rw [h0]; simp
          have x1 : wr.cell? ⟨g, out.length - 1, none⟩ = some (.string q) := by
            rw [blk_cell HG.out]
            exact HH.out.2.2.1 _ _ (by rw [h0]; simp)
          simp only [addP, hlast] at hR
          have hapd : out ++ [p] = out ++ [p] := rfl
          obtain ⟨m, hm⟩ : ∃ m, out.length = m := ⟨_, rfl⟩
          rw [hm] at x1 hlen HGS HGF HADD hol ⊢
          have hm0 : ((m : Int) == 0) = false := beq_eq_false_iff_ne.mpr (by omega)
          have hm1 : 0 ≤ (m : Int) - 1 := by omega
          have hm2 : ((m : Int) - 1).toNat = m - 1 := by omega
          have hm3 : IntKind.i64.wrap ((m : Int) - 1) = (m : Int) - 1 := by
            have := HL.out
            exact IntWalk.i64_in _ (by omega)
          have hm4 : (m : Int) - 1 < (m : Int) := by omega
          have hwi := fun W => within_c W q p HPK.out
          have HM := Aside0.mk hm
          clear h0 hlen hlast hapd hm
          cases hwb : withinS q p with
          | true =>
            rw [if_pos hwb] at hR
            have HR := Aside0.mk hR
            rw [hwb] at hwi
            have HWI := Aside0.mk hwi
            clear hR hwi hwb
            go_wp2_with fail
            refine (HWI.out _).mono ?_
            rintro e w5 ⟨rfl, hb5⟩
            have p5 := prev_call hb5
            have hg5 : w5.heap[g]? = some (.cells cur2 9 (0, 0)) := held
            go_wp2_with fail
            go_roundw
            case rel => exact ⟨k + 1, out, cur2, by omega, by rw [HM.out], by go_num, ⟨HH.out.skip⟩, ⟨hg5⟩, HR, ⟨bel _ _⟩⟩
            case measure => simp [intOf]; omega
          | false =>
            rw [if_neg (by rw [hwb]; decide)] at hR
            have HR := Aside0.mk hR
            rw [hwb] at hwi
            have HWI := Aside0.mk hwi
            clear hR hwi hwb
            go_wp2_with fail
            refine (HWI.out _).mono ?_
            rintro e w5 ⟨rfl, hb5⟩
            have p5 := prev_call hb5
            have hg5 : w5.heap[g]? = some (.cells cur2 9 (0, 0)) := held
            have hgw5 := blk_lt hg5
            have hap : Apart g (.row w5.heap.size) := apart_ne (by omega)
            have hsm : m < cur2.size := by
              have := HH.out.1
              rw [HSL.out] at this
              omega
            go_wp2_with ((with_reducible refine gate_builtin (b := .append) (xs := #[.tmp 34, .tmp 36]) rfl ?_); go_loud (at_builtin; refine append_room rfl (.tmp 34) (.tmp 36) 22 rfl Tryd.underlying22 hI.out hZ.out (g := g) (n := m) (cap := l.length) rfl (by omega) (b := w5.heap.size) (c := 1) rfl (.string p) ?hv rfl ?hc ?hf ?_; (case hv => exact cell_held.trans rfl); (case hc => rw [alloc_cell _ _ _ hgw5, blk_cell hg5]; simp [hsm]); (case hf => rw [alloc_frozen _ _ _ hgw5]; exact blk_frozen hg5 _)))
            go_roundw
            case rel => exact ⟨k + 1, out ++ [p], cur2.setIfInBounds m (.string p), by omega, by rw [List.length_append, HM.out]; rfl, by go_num, HADD, ⟨held⟩, HR, ⟨bel _ _⟩⟩
            case measure => simp [intOf]; omega
      · have hR := HR.out
        rw [List.drop_of_length_le (by rw [HSL.out]; omega)] at hR
        simp only [redA] at hR
        subst hR
        have HHo := HH.out
        have HRL := HRL.out
        go_wp2_with fail
        go_ret
        exact ⟨_, rfl, sr_mk hg0 HG.out rfl HRL (by have := HL.out; omega) HHo.2.2.1, HB.out⟩
def scope_reduce.f (l : List ByteArray) : Option (List ByteArray) := if shortP l = true then some (reduceS l) else none
theorem scope_reduce.calls (A0 : Option Addr) (c0 : Nat) (l0 : List ByteArray) (r : List ByteArray) (w : World) (hr0 : Kd.C Kd.string w A0 l0.length l0) (hc0 : l0.length ≤ c0) (h : scope_reduce.f l0 = some r) :
    Calls Tryd.prog 29 #[.slice A0 l0.length c0] w fun e w' => ∃ v0_ : Value, e = .returned (v0_) ∧ SR Kd.string 9 w' w.heap.size (fun _ => True) v0_ r ∧ Below w.heap.size w w' := by
  unfold scope_reduce.f at h
  split at h
  · rename_i hs
    injection h with h
    subst h
    exact reduce_any w A0 c0 l0 hr0 hs
  · simp at h
end Go.Proofs.YtkflalaocnghcaaDoor.Q

namespace Go.Proofs.YtkflalaocnghcaaDoor.Q
open Go Go.Proofs Go.Shelf Go.RowKit Go.Lib Go.Sort Go.Proofs.YtkflalaocnghcaaDoorP Go.Proofs.YtkflalaocnghcaaDoorK Go.Proofs.YtkflalaocnghcaaDoorW.PrintWords Go.Proofs.YtkflalaocnghcaaDoorW.PrintLast Go.Proofs.YtkflalaocnghcaaDoorW.PrintMore
set_option linter.unusedSimpArgs false
set_option linter.unusedVariables false
/-! ### slices.ContainsFunc at texts; scope.Has, scope.Covers -/
theorem C_str {w : World} {A : Option Addr} {l : List ByteArray} (h : Kd.C Kd.string w A l.length l) (j : Nat) (hj : j < l.length) : ∃ ad, A = some ad ∧ w.cell? (ad.add j) = some (.string l[j]) := by
  obtain ⟨ad, e, hc⟩ := h.2.2 (by omega)
  obtain ⟨c, h1, h2, h3⟩ := hc j l[j] (List.getElem?_eq_getElem hj)
  refine ⟨ad, e, ?_⟩
  have h4 : w.cell? (ad.add (j * 1 + 0)) = some (.string l[j]) := h3 0 (.string l[j]) (by rw [show c = [Value.string l[j]] from h2]; rfl)
  simpa using h4
/-- Where the first one stands that is so; -1: none is. -/
def idxP (p : ByteArray → Bool) : Nat → List ByteArray → Int
  | _, [] => -1
  | i, x :: l => if p x = true then (i : Int) else idxP p (i + 1) l
theorem idxP_any (p : ByteArray → Bool) (l : List ByteArray) : ∀ i, decide (0 ≤ idxP p i l) = l.any p := by
  induction l with
  | nil => intro i; rfl
  | cons x l ih =>
    intro i
    unfold idxP
    rw [List.any_cons]
    cases h : p x with
    | true => rw [if_pos rfl]; simp
    | false => rw [if_neg (by decide), ih]; rfl
/-- What is asked of a predicate that is bound to one box. -/
def PredB (g b : Nat) (p : ByteArray → Bool) (l : List ByteArray) (w : World) : Prop := ∀ W x, x ∈ l → Below w.heap.size w W → Calls Tryd.prog g #[.string x, .pointer (some ⟨b, 0, none⟩)] W fun e w' => e = .returned (.bool (p x)) ∧ Below W.heap.size W w'
set_option maxRecDepth 100000 in
set_option maxHeartbeats 1000000 in
theorem idxf_any (w : World) (A : Option Addr) (c : Nat) (l : List ByteArray) (hC : Kd.C Kd.string w A l.length l) (hl : l.length ≤ 1048576) (g b : Nat) (eg : ∀ args w, (callFunc g args).run Tryd.prog w = .ok (.enter g args) w) (p : ByteArray → Bool) (hp : PredB g b p l w) :
    Calls Tryd.prog 51 #[.slice A l.length c, .func (.func g) #[] #[.pointer (some ⟨b, 0, none⟩)]] w fun e w' => e = .returned (.int .i64 (idxP p 0 l)) ∧ Below w.heap.size w w' := by
  have HR := Aside0.mk hC
  have HP := Aside0.mk hp
  have HB0 := Aside0.mk (Below.refl w.heap.size w)
  clear hC hp
  go_enter Tryd.func51, Tryd.ntmps51
  go_wp2_with fail
  go_loopw [8] (fun i wr => ∃ j : Nat, j ≤ l.length ∧ i = .int .i64 (j : Int) ∧ Aside0 (idxP p j (l.drop j) = idxP p 0 l) ∧ Aside0 (Below w.heap.size w wr)) (fun i _ => l.length - (intOf i).toNat)
  case atStart => exact ⟨0, Nat.zero_le _, rfl, ⟨rfl⟩, HB0⟩
  case round =>
    obtain ⟨j, hj, rfl, HI, HB⟩ := hrel
    by_cases hlt : j < l.length
    · obtain ⟨ad, e, x0⟩ := C_str HR.out j hlt
      subst e
      have hd := List.drop_eq_getElem_cons hlt
      have hmem := List.getElem_mem hlt
      have hI := HI.out
      rw [hd] at hI
      simp only [idxP] at hI
      have hpw := fun W => HP.out W l[j] hmem
      generalize l[j] = x at x0 hI hpw
      replace x0 := (HB.out.cell (World.block_lt_of_cell? w _ x0)).trans x0
      have HPW := Aside0.mk hpw
      clear hd hmem hpw HI
      have bw : Bel w.heap.size w wr := ⟨fun _ => HB.out⟩
      cases hx : p x with
      | true =>
        rw [if_pos hx] at hI
        have HI := Aside0.mk hI
        have HPW := HPW.out
        rw [hx] at HPW
        have HPW := Aside0.mk HPW
        clear hI hx
        go_wp2_with fail
        refine (HPW.out _ (bel _ _)).mono ?_
        rintro e w1 ⟨rfl, hb1⟩
        have p1 := prev_call hb1
        go_wp2_with fail
        go_ret
        exact ⟨by rw [← HI.out]; rfl, bel _ _⟩
      | false =>
        rw [if_neg (by rw [hx]; decide)] at hI
        have HI := Aside0.mk hI
        have HPW := HPW.out
        rw [hx] at HPW
        have HPW := Aside0.mk HPW
        clear hI hx
        go_wp2_with fail
        refine (HPW.out _ (bel _ _)).mono ?_
        rintro e w1 ⟨rfl, hb1⟩
        have p1 := prev_call hb1
        go_wp2_with fail
        go_roundw
        case rel => exact ⟨j + 1, by omega, by go_num, HI, ⟨bel _ _⟩⟩
        case measure => simp [intOf]; omega
    · have hI := HI.out
      rw [List.drop_of_length_le (by omega)] at hI
      have HI' := Aside0.mk hI
      clear hI HI
      go_wp2_with fail
      go_ret
      exact ⟨by rw [← HI'.out]; rfl, HB.out⟩
theorem contf_any (w : World) (A : Option Addr) (c : Nat) (l : List ByteArray) (hC : Kd.C Kd.string w A l.length l) (hl : l.length ≤ 1048576) (g b : Nat) (eg : ∀ args w, (callFunc g args).run Tryd.prog w = .ok (.enter g args) w) (p : ByteArray → Bool) (hp : PredB g b p l w) :
    Calls Tryd.prog 35 #[.slice A l.length c, .func (.func g) #[] #[.pointer (some ⟨b, 0, none⟩)]] w fun e w' => e = .returned (.bool (l.any p)) ∧ Below w.heap.size w w' := by
  rw [← idxP_any p l 0]
  have hi := idxf_any w A c l hC hl g b eg p hp
  generalize idxP p 0 l = z at hi
  have HI := Aside0.mk hi
  clear hi hC hp eg
  go_enter Tryd.func35, Tryd.ntmps35
  go_wp2_with fail
  refine HI.out.mono ?_
  rintro e w1 ⟨rfl, hb1⟩
  go_wp2_with fail
  go_ret
  exact ⟨rfl, hb1⟩
/-- Does a path lie in one of a list? -/
def hasS (s : List ByteArray) (p : ByteArray) : Bool := isP p && s.any fun d => withinS d p
theorem has1_any (w : World) (b : Nat) (p : ByteArray) (hp : p.size ≤ 65536) (h : w.heap[b]? = some (.cells #[.string p] 9 (0, 0))) (l : List ByteArray) : PredB 36 b (fun d => withinS d p) l w := by
  intro W x _ hb
  have hW := (hb.block b (blk_lt h)).trans h
  have hh : Go.Proofs.YtkflalaocnghcaaDoorK.Holds W b (.cells #[.string p] 9) := ⟨hW⟩
  have x0 : W.cell? ⟨b, 0, none⟩ = some (.string p) := cell_held.trans rfl
  have hwi := fun W => within_c W x p hp
  have HWI := Aside0.mk hwi
  clear hwi hb hh hW h hp
  go_enter Tryd.func36, Tryd.ntmps36
  go_wp2_with fail
  refine (HWI.out _).mono ?_
  rintro e w1 ⟨rfl, hb1⟩
  go_wp2_with fail
  go_ret
  exact ⟨rfl, hb1⟩
set_option maxHeartbeats 1000000 in
theorem Has_any (w : World) (A : Option Addr) (c : Nat) (l : List ByteArray) (p : ByteArray) (hC : Kd.C Kd.string w A l.length l) (hl : l.length ≤ 1048576) (hp : p.size ≤ 65536) :
    Calls Tryd.prog 16 #[.slice A l.length c, .string p] w fun e w' => e = .returned (.bool (hasS l p)) ∧ Below w.heap.size w w' := by
  have hk := fun W => Kind_any W p hp
  have eg : ∀ args w, (callFunc 36 args).run Tryd.prog w = .ok (.enter 36 args) w := enters_of Tryd.func36 (by kernel_rfl) rfl
  have EG := Aside0.mk eg
  have HC := Aside0.mk hC
  have HP := Aside0.mk hp
  have HL := Aside0.mk hl
  unfold hasS isP
  generalize kindS p = r at hk
  obtain ⟨k, e⟩ := r
  dsimp only at hk ⊢
  by_cases h0 : e = 0
  · subst h0
    have HK := Aside0.mk hk
    clear hk hC hp hl eg
    go_enter Tryd.func16, Tryd.ntmps16
    go_wp2_with fail
    refine (HK.out _).mono ?_
    rintro e w1 ⟨rfl, hb1⟩
    have p1 := prev_call hb1
    go_wp2_with fail
    refine (contf_any w1 A c l (Kd.C_below HC.out (bel _ _)) HL.out _ w.heap.size EG.out _ (has1_any w1 w.heap.size p HP.out held l)).mono ?_
    rintro e w2 ⟨rfl, hb2⟩
    have p2 := prev_call hb2
    go_wp2_with fail
    go_ret
    exact ⟨rfl, bel _ _⟩
  · have h1 : (e == 0) = false := beq_eq_false_iff_ne.mpr h0
    have h2 : (e != 0) = true := bne_iff_ne.mpr h0
    rw [h1]
    have HK := Aside0.mk hk
    clear hk hC hp hl eg h0
    go_enter Tryd.func16, Tryd.ntmps16
    go_wp2_with fail
    refine (HK.out _).mono ?_
    rintro e w1 ⟨rfl, hb1⟩
    have p1 := prev_call hb1
    go_wp2_with fail
    go_ret
    exact ⟨rfl, bel _ _⟩
theorem cov1_any (w : World) (b : Nat) (A : Option Addr) (c : Nat) (l : List ByteArray) (hC : Kd.C Kd.string w A l.length l) (hl : l.length ≤ 1048576) (h : w.heap[b]? = some (.cells #[.slice A l.length c] 22 (0, 0))) (m : List ByteArray) (hm : ∀ x ∈ m, x.size ≤ 65536) : PredB 38 b (fun p => !hasS l p) m w := by
  intro W x hx hb
  have hW := (hb.block b (blk_lt h)).trans h
  have hh : Go.Proofs.YtkflalaocnghcaaDoorK.Holds W b (.cells #[.slice A l.length c] 22) := ⟨hW⟩
  have x0 : W.cell? ⟨b, 0, none⟩ = some (.slice A l.length c) := cell_held.trans rfl
  have hhas := Has_any W A c l x (Kd.C_below hC hb) hl (hm x hx)
  have HH := Aside0.mk hhas
  clear hhas hb hh hW h hm hC hl hx
  cases hv : hasS l x with
  | true =>
    have HH := HH.out
    rw [hv] at HH
    have HH := Aside0.mk HH
    have HV := Aside0.mk hv
    clear hv
    go_enter Tryd.func38, Tryd.ntmps38
    go_wp2_with fail
    refine HH.out.mono ?_
    rintro e w1 ⟨rfl, hb1⟩
    go_wp2_with fail
    go_ret
    exact ⟨by rw [HV.out]; rfl, hb1⟩
  | false =>
    have HH := HH.out
    rw [hv] at HH
    have HH := Aside0.mk HH
    have HV := Aside0.mk hv
    clear hv
    go_enter Tryd.func38, Tryd.ntmps38
    go_wp2_with fail
    refine HH.out.mono ?_
    rintro e w1 ⟨rfl, hb1⟩
    go_wp2_with fail
    go_ret
    exact ⟨by rw [HV.out]; rfl, hb1⟩
def coversS (a b : List ByteArray) : Bool := !b.any fun p => !hasS a p
set_option maxHeartbeats 1000000 in
theorem Covers_any (w : World) (A : Option Addr) (c : Nat) (a : List ByteArray) (B : Option Addr) (d : Nat) (b : List ByteArray) (hC : Kd.C Kd.string w A a.length a) (hl : a.length ≤ 1048576) (hD : Kd.C Kd.string w B b.length b) (hs : shortP b = true) :
    Calls Tryd.prog 18 #[.slice A a.length c, .slice B b.length d] w fun e w' => e = .returned (.bool (coversS a b)) ∧ Below w.heap.size w w' := by
  obtain ⟨hbl, hbm⟩ := shortP_mem hs
  have eg : ∀ args w, (callFunc 38 args).run Tryd.prog w = .ok (.enter 38 args) w := enters_of Tryd.func38 (by kernel_rfl) rfl
  have hcon := contf_any (w.alloc (.cells #[.slice A a.length c] 22)) B d b (Kd.C_below hD (bel _ _)) hbl _ w.heap.size eg _ (cov1_any (w.alloc (.cells #[.slice A a.length c] 22)) w.heap.size A c a (Kd.C_below hC (bel _ _)) hl held b hbm)
  unfold coversS
  generalize (b.any fun p => !hasS a p) = z at hcon
  have HC := Aside0.mk hcon
  clear hcon hC hl hD hs hbl hbm
  have EG := Aside0.mk eg
  clear eg
  go_enter Tryd.func18, Tryd.ntmps18
  go_wp2_with fail
  refine HC.out.mono ?_
  rintro e w1 ⟨rfl, hb1⟩
  have p1 := prev_call hb1
  go_wp2_with fail
  go_ret
  exact ⟨rfl, bel _ _⟩
def scope_Has.f (l : List ByteArray) (p : ByteArray) : Option Bool := if l.length ≤ 1048576 ∧ p.size ≤ 65536 then some (hasS l p) else none
theorem scope_Has.calls (A0 : Option Addr) (c0 : Nat) (l0 : List ByteArray) (a1 : ByteArray) (r : Bool) (w : World) (hr0 : Kd.C Kd.string w A0 l0.length l0) (hc0 : l0.length ≤ c0) (h : scope_Has.f l0 a1 = some r) :
    Calls Tryd.prog 16 #[.slice A0 l0.length c0, .string a1] w fun e w' => e = .returned (.bool r) ∧ Below w.heap.size w w' := by
  unfold scope_Has.f at h
  split at h
  · rename_i hs
    injection h with h
    subst h
    exact Has_any w A0 c0 l0 a1 hr0 hs.1 hs.2
  · simp at h
def scope_Covers.f (a b : List ByteArray) : Option Bool := if a.length ≤ 1048576 ∧ shortP b = true then some (coversS a b) else none
theorem scope_Covers.calls (A0 : Option Addr) (c0 : Nat) (l0 : List ByteArray) (A1 : Option Addr) (c1 : Nat) (l1 : List ByteArray) (r : Bool) (w : World) (hr0 : Kd.C Kd.string w A0 l0.length l0) (hc0 : l0.length ≤ c0) (hr1 : Kd.C Kd.string w A1 l1.length l1) (hc1 : l1.length ≤ c1) (h : scope_Covers.f l0 l1 = some r) :
    Calls Tryd.prog 18 #[.slice A0 l0.length c0, .slice A1 l1.length c1] w fun e w' => e = .returned (.bool r) ∧ Below w.heap.size w w' := by
  unfold scope_Covers.f at h
  split at h
  · rename_i hs
    injection h with h
    subst h
    exact Covers_any w A0 c0 l0 A1 c1 l1 hr0 hs.1 hr1 hs.2
  · simp at h
end Go.Proofs.YtkflalaocnghcaaDoor.Q

namespace Go.Proofs.YtkflalaocnghcaaDoor.Q
open Go.RowKit Go.Proofs.YtkflalaocnghcaaDoorW.PrintWords Go.Proofs.YtkflalaocnghcaaDoorW.PrintLast Go.Proofs.YtkflalaocnghcaaDoorW.PrintMore Go.Proofs.YtkflalaocnghcaaDoorK
attribute [local go_sem] max2_int min2_int max_two min_two max_three min_three max_four min_four   -- for this text's walks alone
attribute [local go_sem ↓] Go.Proofs.YtkflalaocnghcaaDoorK.isSome_setCell
set_option linter.unusedVariables false
set_option linter.unusedSimpArgs false

/-! ### scope_dir: function 28 -/
def scope_dir.f (a0 : ByteArray) : Option (Int) := (path_Kind.f a0).bind fun bt106 => (if bt106.2 = 0 then (if bt106.1 = 2 then (some 13) else (some bt106.2)) else (some bt106.2))
set_option maxHeartbeats 8000000 in
set_option maxRecDepth 100000 in
theorem scope_dir.calls (a0 : ByteArray) (r : Int) (w : World) (h : scope_dir.f a0 = some r) :
    Calls Tryd.prog 28 #[.string a0] w fun e w' => e = .returned (.int .i64 r) ∧ Below w.heap.size w w' := by
  have HB := Aside0.mk (Below.refl w.heap.size w)
  have H : ((path_Kind.f a0).bind fun bt106 => (if bt106.2 = 0 then (if bt106.1 = 2 then (some 13) else (some bt106.2)) else (some bt106.2))) = some r := h
  clear h
  replace H := Option.bind_eq_some_iff.mp H
  obtain ⟨⟨t106, t107⟩, A20, H⟩ := H
  replace H : (if t107 = 0 then (if t106 = 2 then (some 13) else (some t107)) else (some t107)) = some r := H
  have A2 := Aside0.mk A20
  clear A20
  by_cases c3 : t107 = 0
  · rw [if_pos c3] at H
    have c3b0 : (t107 == 0) = true := beq_iff_eq.mpr c3
    have c3b1 : (t107 != 0) = false := bne_eq_false_iff_eq.mpr c3
    clear c3
    by_cases c4 : t106 = 2
    · rw [if_pos c4] at H
      have c4b0 : (t106 == 2) = true := beq_iff_eq.mpr c4
      have c4b1 : (t106 != 2) = false := bne_eq_false_iff_eq.mpr c4
      clear c4
      obtain rfl := Option.some.inj H
      go_enter Tryd.func28, Tryd.ntmps28
      go_wp2_with (first | ((with_reducible refine gate_callee (f := 34) rfl ?_); refine goesL_ (some 7) rfl rfl Tryd.func34 (by kernel_rfl) rfl #[.string a0] rfl (by (try simp only [List.map_toArray, List.map_cons, List.map_nil]); first | done | rfl | (simp only [List.length_drop, List.length_take]; rfl)) ?_; (with_reducible refine (path_Kind.calls a0 t106 t107 _ A2.out).mono ?_); rintro e w5 ⟨rfl, hb⟩; refine ⟨_, rfl, ?_⟩; have n0_ := Aside0.mk (below_step (belU HB.out) hb); clear HB; have HB := n0_; clear n0_; (try clear hb); (try clear hb2); (try clear hk); (try clear hi)))
      go_ret
      exact ⟨by first | rfl | (simp [errW_none, errW_some] <;> rfl) | (simp [*, errW_none, errW_some] <;> rfl), belU HB.out⟩
    · rw [if_neg c4] at H
      have c4b0 : (t106 == 2) = false := beq_eq_false_iff_ne.mpr c4
      have c4b1 : (t106 != 2) = true := bne_iff_ne.mpr c4
      obtain rfl := Option.some.inj H
      go_enter Tryd.func28, Tryd.ntmps28
      go_wp2_with (first | ((with_reducible refine gate_callee (f := 34) rfl ?_); refine goesL_ (some 7) rfl rfl Tryd.func34 (by kernel_rfl) rfl #[.string a0] rfl (by (try simp only [List.map_toArray, List.map_cons, List.map_nil]); first | done | rfl | (simp only [List.length_drop, List.length_take]; rfl)) ?_; (with_reducible refine (path_Kind.calls a0 t106 t107 _ A2.out).mono ?_); rintro e w6 ⟨rfl, hb⟩; refine ⟨_, rfl, ?_⟩; have n0_ := Aside0.mk (below_step (belU HB.out) hb); clear HB; have HB := n0_; clear n0_; (try clear hb); (try clear hb2); (try clear hk); (try clear hi)))
      go_ret
      exact ⟨by first | rfl | (simp [errW_none, errW_some] <;> rfl) | (simp [*, errW_none, errW_some] <;> rfl), belU HB.out⟩
  · rw [if_neg c3] at H
    have c3b0 : (t107 == 0) = false := beq_eq_false_iff_ne.mpr c3
    have c3b1 : (t107 != 0) = true := bne_iff_ne.mpr c3
    obtain rfl := Option.some.inj H
    go_enter Tryd.func28, Tryd.ntmps28
    go_wp2_with (first | ((with_reducible refine gate_callee (f := 34) rfl ?_); refine goesL_ (some 7) rfl rfl Tryd.func34 (by kernel_rfl) rfl #[.string a0] rfl (by (try simp only [List.map_toArray, List.map_cons, List.map_nil]); first | done | rfl | (simp only [List.length_drop, List.length_take]; rfl)) ?_; (with_reducible refine (path_Kind.calls a0 t106 t107 _ A2.out).mono ?_); rintro e w7 ⟨rfl, hb⟩; refine ⟨_, rfl, ?_⟩; have n0_ := Aside0.mk (below_step (belU HB.out) hb); clear HB; have HB := n0_; clear n0_; (try clear hb); (try clear hb2); (try clear hk); (try clear hi)))
    go_ret
    exact ⟨by first | rfl | (simp [errW_none, errW_some] <;> rfl) | (simp [*, errW_none, errW_some] <;> rfl), belU HB.out⟩

end Go.Proofs.YtkflalaocnghcaaDoor.Q

namespace Go.Proofs.YtkflalaocnghcaaDoor.Q
open Go.RowKit Go.Proofs.YtkflalaocnghcaaDoorW.PrintWords Go.Proofs.YtkflalaocnghcaaDoorW.PrintLast Go.Proofs.YtkflalaocnghcaaDoorW.PrintMore Go.Proofs.YtkflalaocnghcaaDoorK
attribute [local go_sem] max2_int min2_int max_two min_two max_three min_three max_four min_four   -- for this text's walks alone
attribute [local go_sem ↓] Go.Proofs.YtkflalaocnghcaaDoorK.isSome_setCell
set_option linter.unusedVariables false
set_option linter.unusedSimpArgs false

/-! ### scope_Make: function 10 -/
def scope_Make.l0 : Nat → List ByteArray → List ByteArray → Int → Int → Option (List ByteArray × Int)
  | 0, _, _, _, _ => none
  | k + 1, x0, x8, x9, x10 => if x10 < x9 then (if 0 ≤ x10 then (if x10 < (x8.length : Int) then ((scope_dir.f (rdOf ByteArray.empty x8 x10)).bind fun t110 => (if t110 = 0 then (scope_Make.l0 k x0 x8 x9 (wrap64 (x10 + 1))) else (some (([] : List ByteArray), t110)))) else (none)) else (none)) else ((scope_reduce.f x0).bind fun t111 => (if (t111.length : Int) > 16 then (some (([] : List ByteArray), 7)) else (some (t111, 0))))
def scope_Make.f (k : Nat) (l0 : List ByteArray) : Option (List ByteArray × Int) := scope_Make.l0 k l0 l0 (l0.length : Int) 0
theorem scope_Make.mono_l : ∀ k, (∀ y0 y1 y2 y3, LeO (scope_Make.l0 k y0 y1 y2 y3) (scope_Make.l0 (k + 1) y0 y1 y2 y3))
  | 0 => fun _ _ _ _ r h => by simp [scope_Make.l0] at h
  | k + 1 => by
    have ih0 := scope_Make.mono_l k
    · intro y0 y1 y2 y3
      unfold scope_Make.l0
      repeat' first
      | (with_reducible exact ih0 _ _ _ _)
      | (with_reducible exact LeO.refl _)
      | (with_reducible exact LeO.none _)
      | (with_reducible refine LeO.ite ?_ ?_)
      | (with_reducible refine LeO.bind ?_ (fun _ => ?_))
      | exact ih0 _ _ _ _
      | exact LeO.none _
      | refine LeO.ite ?_ ?_
      | refine LeO.bind ?_ (fun _ => ?_)
theorem scope_Make.mono : ∀ a0 k, LeO (scope_Make.f k a0) (scope_Make.f (k + 1) a0) := by
  intro a0 k
  have ih0 := scope_Make.mono_l k
  unfold scope_Make.f
  repeat' first
      | (with_reducible exact ih0 _ _ _ _)
      | (with_reducible exact LeO.refl _)
      | (with_reducible exact LeO.none _)
      | (with_reducible refine LeO.ite ?_ ?_)
      | (with_reducible refine LeO.bind ?_ (fun _ => ?_))
      | exact ih0 _ _ _ _
      | exact LeO.none _
      | refine LeO.ite ?_ ?_
      | refine LeO.bind ?_ (fun _ => ?_)
set_option maxHeartbeats 8000000 in
set_option maxRecDepth 100000 in
theorem scope_Make.calls (k : Nat) (A0 : Option Addr) (c0 : Nat) (l0 : List ByteArray) (r1 : List ByteArray) (r2 : Int) (w : World) (hr0 : Kd.C Kd.string w A0 l0.length l0) (hc0 : l0.length ≤ c0) (h : scope_Make.f k l0 = some (r1, r2)) :
    Calls Tryd.prog 10 #[.slice A0 l0.length c0] w fun e w' => ∃ v0_ : Value, e = .returned (.tuple #[v0_, .int .i64 r2]) ∧ SR Kd.string 9 w' w.heap.size (fun _ => True) v0_ r1 ∧ Below w.heap.size w w' := by
  have HR0 := Aside0.mk hr0
  have HC0 := Aside0.mk hc0
  clear hr0 hc0
  have HB := Aside0.mk (Below.refl w.heap.size w)
  have H : (scope_Make.l0 k l0 l0 (l0.length : Int) 0) = some (r1, r2) := h
  clear h
  have H' := Aside0.mk H
  clear H
  go_enter Tryd.func10, Tryd.ntmps10
  go_wp2
  go_loopg [10] k (fun kq v10 w' => ∃ (x10_1 : Int), v10 = .int .i64 x10_1 ∧ Aside0 (scope_Make.l0 kq l0 l0 (l0.length : Int) x10_1 = some (r1, r2)) ∧ Aside0 (kq ≤ k) ∧ Aside0 (Below w.heap.size w w'))
  case atStart => exact ⟨(0), (by first | rfl | (simp; done) | (simp [*]; done)), H', ⟨Nat.le_refl _⟩, ⟨belU HB.out⟩⟩
  case round =>
    clear H'
    try clear c1
    obtain ⟨x10_1, rfl, HA, HK1, HB⟩ := hrel
    cases gk with
    | zero => exact absurd HA.out (by simp [scope_Make.l0])
    | succ k1 =>
      have H := HA.out
      clear HA
      simp only [scope_Make.l0] at H
      by_cases c2 : x10_1 < (l0.length : Int)
      · rw [if_pos c2] at H
        have c2b0 : decide (x10_1 < (l0.length : Int)) = true := decide_eq_true c2
        clear c2
        by_cases c3 : 0 ≤ x10_1
        · rw [if_pos c3] at H
          have c3b0 : decide (0 ≤ x10_1) = true := decide_eq_true c3
          clear c3
          by_cases c4 : x10_1 < (l0.length : Int)
          · rw [if_pos c4] at H
            have c4b0 : decide (x10_1 < (l0.length : Int)) = true := decide_eq_true c4
            clear c4
            replace H := Option.bind_eq_some_iff.mp H
            obtain ⟨t110, A50, H⟩ := H
            replace H : (if t110 = 0 then (scope_Make.l0 k1 l0 l0 (l0.length : Int) (wrap64 (x10_1 + 1))) else (some (([] : List ByteArray), t110))) = some (r1, r2) := H
            have A5 := Aside0.mk A50
            clear A50
            by_cases c6 : t110 = 0
            · rw [if_pos c6] at H
              have c6b0 : (t110 == 0) = true := beq_iff_eq.mpr c6
              have c6b1 : (t110 != 0) = false := bne_eq_false_iff_eq.mpr c6
              clear c6
              have H' := Aside0.mk H
              clear H
              have p109 : 0 ≤ (x10_1 : Int) := of_decide_eq_true (by first | (with_reducible assumption) | assumption)
              have q109 : x10_1 < (l0.length : Int) := of_decide_eq_true (by first | (with_reducible assumption) | assumption)
              obtain ⟨ad109, e109, hx109_0⟩ := Kd.at_string HR0.out x10_1 p109 q109
              cases e109
              replace hx109_0 := (HB.out.cell (World.block_lt_of_cell? w _ hx109_0)).trans hx109_0
              replace p109 := eq_true p109
              replace q109 := eq_true q109
              go_wp2_with (first | ((with_reducible refine gate_callee (f := 28) rfl ?_); refine goesL_ (some 15) rfl rfl Tryd.func28 (by kernel_rfl) rfl #[.string (rdOf ByteArray.empty l0 x10_1)] rfl (by (try simp only [List.map_toArray, List.map_cons, List.map_nil]); first | done | rfl | (simp only [List.length_drop, List.length_take]; rfl)) ?_; (with_reducible refine (scope_dir.calls (rdOf ByteArray.empty l0 x10_1) t110 _ A5.out).mono ?_); rintro e w7 ⟨rfl, hb⟩; refine ⟨_, rfl, ?_⟩; have n0_ := Aside0.mk (below_step (belU HB.out) hb); clear HB; have HB := n0_; clear n0_; (try clear hb); (try clear hb2); (try clear hk); (try clear hi)))
              go_roundg k1
              case measure => have := HK1.out; omega
              case rel => exact ⟨(wrap64 (x10_1 + 1)), (by first | rfl | (simp; done) | (simp [*]; done)), H', ⟨by have := HK1.out; omega⟩, ⟨belU HB.out⟩⟩
            · rw [if_neg c6] at H
              have c6b0 : (t110 == 0) = false := beq_eq_false_iff_ne.mpr c6
              have c6b1 : (t110 != 0) = true := bne_iff_ne.mpr c6
              simp only [Option.some.injEq, Prod.mk.injEq] at H
              obtain ⟨rfl, rfl⟩ := H
              have p109 : 0 ≤ (x10_1 : Int) := of_decide_eq_true (by first | (with_reducible assumption) | assumption)
              have q109 : x10_1 < (l0.length : Int) := of_decide_eq_true (by first | (with_reducible assumption) | assumption)
              obtain ⟨ad109, e109, hx109_0⟩ := Kd.at_string HR0.out x10_1 p109 q109
              cases e109
              replace hx109_0 := (HB.out.cell (World.block_lt_of_cell? w _ hx109_0)).trans hx109_0
              replace p109 := eq_true p109
              replace q109 := eq_true q109
              go_wp2_with (first | ((with_reducible refine gate_callee (f := 28) rfl ?_); refine goesL_ (some 15) rfl rfl Tryd.func28 (by kernel_rfl) rfl #[.string (rdOf ByteArray.empty l0 x10_1)] rfl (by (try simp only [List.map_toArray, List.map_cons, List.map_nil]); first | done | rfl | (simp only [List.length_drop, List.length_take]; rfl)) ?_; (with_reducible refine (scope_dir.calls (rdOf ByteArray.empty l0 x10_1) t110 _ A5.out).mono ?_); rintro e w8 ⟨rfl, hb⟩; refine ⟨_, rfl, ?_⟩; have n0_ := Aside0.mk (below_step (belU HB.out) hb); clear HB; have HB := n0_; clear n0_; (try clear hb); (try clear hb2); (try clear hk); (try clear hi)))
              go_ret2
              exact ⟨_, by first | rfl | (simp [errW_none, errW_some] <;> rfl) | (simp [*, errW_none, errW_some] <;> rfl), by first | exact SR_nil _ _ _ _ _ | exact Kd.N_nil _ _ _ _ _ | exact Kd.V_nil _ _ _ _ _ | exact Kd.Q_nil _ _ _ _ _ | exact Kd.S_nil _ _ _ _ _, belU HB.out⟩
          · rw [if_neg c4] at H
            exact absurd H (by simp)
        · rw [if_neg c3] at H
          exact absurd H (by simp)
      · rw [if_neg c2] at H
        have c2b0 : decide (x10_1 < (l0.length : Int)) = false := decide_eq_false c2
        clear c2
        replace H := Option.bind_eq_some_iff.mp H
        obtain ⟨t111, A90, H⟩ := H
        replace H : (if (t111.length : Int) > 16 then (some (([] : List ByteArray), 7)) else (some (t111, 0))) = some (r1, r2) := H
        have A9 := Aside0.mk A90
        clear A90
        by_cases c10 : (t111.length : Int) > 16
        · rw [if_pos c10] at H
          have c10b0 : decide (16 < (t111.length : Int)) = true := decide_eq_true c10
          have c10b1 : decide (16 < t111.length) = true := decide_eq_true (by omega)
          clear c10
          simp only [Option.some.injEq, Prod.mk.injEq] at H
          obtain ⟨rfl, rfl⟩ := H
          go_wp2_with (first | ((with_reducible refine gate_callee (f := 29) rfl ?_); refine goesL_ (some 21) rfl rfl Tryd.func29 (by kernel_rfl) rfl #[.slice A0 l0.length c0] rfl (by (try simp only [List.map_toArray, List.map_cons, List.map_nil]); first | done | rfl | (simp only [List.length_drop, List.length_take]; rfl)) ?_; (with_reducible refine (scope_reduce.calls _ _ l0 t111 _ ?side1 ?side2 A9.out).mono ?_); (case side1 => exact CU (Kd.C_below HR0.out HB.out)); (case side2 => exact HC0.out); rintro e w11 ⟨v112, rfl, ho0, hb⟩; refine ⟨_, rfl, ?_⟩; have n0_ := Aside0.mk (S_lower ho0 (sizU HB.out)); have n1_ := Aside0.mk (below_step (belU HB.out) hb); clear HB; have HO113 := n0_; have HB := n1_; clear n0_ n1_; (try clear hb); (try clear hb2); (try clear hk); (try clear hi); (try clear ho0); obtain ⟨Ao12, co12, eo12⟩ := S_slice HO113.out; subst eo12))
          go_ret2
          exact ⟨_, by first | rfl | (simp [errW_none, errW_some] <;> rfl) | (simp [*, errW_none, errW_some] <;> rfl), by first | exact SR_nil _ _ _ _ _ | exact Kd.N_nil _ _ _ _ _ | exact Kd.V_nil _ _ _ _ _ | exact Kd.Q_nil _ _ _ _ _ | exact Kd.S_nil _ _ _ _ _, belU HB.out⟩
        · rw [if_neg c10] at H
          have c10b0 : decide (16 < (t111.length : Int)) = false := decide_eq_false c10
          have c10b1 : decide (16 < t111.length) = false := decide_eq_false (by omega)
          clear c10
          simp only [Option.some.injEq, Prod.mk.injEq] at H
          obtain ⟨rfl, rfl⟩ := H
          go_wp2_with (first | ((with_reducible refine gate_callee (f := 29) rfl ?_); refine goesL_ (some 21) rfl rfl Tryd.func29 (by kernel_rfl) rfl #[.slice A0 l0.length c0] rfl (by (try simp only [List.map_toArray, List.map_cons, List.map_nil]); first | done | rfl | (simp only [List.length_drop, List.length_take]; rfl)) ?_; (with_reducible refine (scope_reduce.calls _ _ l0 t111 _ ?side1 ?side2 A9.out).mono ?_); (case side1 => exact CU (Kd.C_below HR0.out HB.out)); (case side2 => exact HC0.out); rintro e w13 ⟨v112, rfl, ho0, hb⟩; refine ⟨_, rfl, ?_⟩; have n0_ := Aside0.mk (S_lower ho0 (sizU HB.out)); have n1_ := Aside0.mk (below_step (belU HB.out) hb); clear HB; have HO113 := n0_; have HB := n1_; clear n0_ n1_; (try clear hb); (try clear hb2); (try clear hk); (try clear hi); (try clear ho0); obtain ⟨Ao14, co14, eo14⟩ := S_slice HO113.out; subst eo14))
          go_ret2
          exact ⟨_, by first | rfl | (simp [errW_none, errW_some] <;> rfl) | (simp [*, errW_none, errW_some] <;> rfl), by exact SU HO113.out, belU HB.out⟩

end Go.Proofs.YtkflalaocnghcaaDoor.Q

namespace Go.Proofs.YtkflalaocnghcaaDoor.Q
open Go.RowKit Go.Proofs.YtkflalaocnghcaaDoorW.PrintWords Go.Proofs.YtkflalaocnghcaaDoorW.PrintLast Go.Proofs.YtkflalaocnghcaaDoorW.PrintMore Go.Proofs.YtkflalaocnghcaaDoorK
attribute [local go_sem] max2_int min2_int max_two min_two max_three min_three max_four min_four   -- for this text's walks alone
attribute [local go_sem ↓] Go.Proofs.YtkflalaocnghcaaDoorK.isSome_setCell
set_option linter.unusedVariables false
set_option linter.unusedSimpArgs false

/-! ### scope_within: function 33 -/
def scope_within.f (a0 : ByteArray) (a1 : ByteArray) : Option (Bool) := if a1.toList = a0.toList then (some true) else ((path_Below.f a0 a1).bind fun t108 => (some t108))
set_option maxHeartbeats 8000000 in
set_option maxRecDepth 100000 in
theorem scope_within.calls (a0 : ByteArray) (a1 : ByteArray) (r : Bool) (w : World) (h : scope_within.f a0 a1 = some r) :
    Calls Tryd.prog 33 #[.string a0, .string a1] w fun e w' => e = .returned (.bool r) ∧ Below w.heap.size w w' := by
  have HB := Aside0.mk (Below.refl w.heap.size w)
  have H : (if a1.toList = a0.toList then (some true) else ((path_Below.f a0 a1).bind fun t108 => (some t108))) = some r := h
  clear h
  by_cases c3 : a1.toList = a0.toList
  · rw [if_pos c3] at H
    have c3b0 : (a1.toList == a0.toList) = true := beq_iff_eq.mpr c3
    have c3b1 : (a1.toList != a0.toList) = false := bne_eq_false_iff_eq.mpr c3
    clear c3
    obtain rfl := Option.some.inj H
    go_enter Tryd.func33, Tryd.ntmps33
    go_wp2
    go_ret
    exact ⟨by first | rfl | (simp [errW_none, errW_some] <;> rfl) | (simp [*, errW_none, errW_some] <;> rfl), belU HB.out⟩
  · rw [if_neg c3] at H
    have c3b0 : (a1.toList == a0.toList) = false := beq_eq_false_iff_ne.mpr c3
    have c3b1 : (a1.toList != a0.toList) = true := bne_iff_ne.mpr c3
    replace H := Option.bind_eq_some_iff.mp H
    obtain ⟨t108, A40, H⟩ := H
    replace H : (some t108) = some r := H
    have A4 := Aside0.mk A40
    clear A40
    obtain rfl := Option.some.inj H
    go_enter Tryd.func33, Tryd.ntmps33
    go_wp2_with (first | (go_at_call 49; (with_reducible refine (path_Below.calls a0 a1 t108 _ A4.out).mono ?_); rintro e w5 ⟨rfl, hb⟩; have n0_ := Aside0.mk (below_step (belU HB.out) hb); clear HB; have HB := n0_; clear n0_; (try clear hb); (try clear hb2); (try clear hk); (try clear hi)))
    go_ret
    exact ⟨by first | rfl | (simp [errW_none, errW_some] <;> rfl) | (simp [*, errW_none, errW_some] <;> rfl), belU HB.out⟩

end Go.Proofs.YtkflalaocnghcaaDoor.Q

namespace Go.Proofs.YtkflalaocnghcaaDoor.Q
open Go.RowKit Go.Proofs.YtkflalaocnghcaaDoorW.PrintWords Go.Proofs.YtkflalaocnghcaaDoorW.PrintLast Go.Proofs.YtkflalaocnghcaaDoorW.PrintMore Go.Proofs.YtkflalaocnghcaaDoorK
attribute [local go_sem] max2_int min2_int max_two min_two max_three min_three max_four min_four   -- for this text's walks alone
attribute [local go_sem ↓] Go.Proofs.YtkflalaocnghcaaDoorK.isSome_setCell
set_option linter.unusedVariables false
set_option linter.unusedSimpArgs false

/-! ### scope_May: function 13 -/
def scope_May.l0 : Nat → List ByteArray → List ByteArray → Int → Int → Option (Bool)
  | 0, _, _, _, _ => none
  | k + 1, x0, x5, x6, x7 => if x7 < x6 then (if 0 ≤ x7 then (if x7 < (x5.length : Int) then ((scope_dir.f (rdOf ByteArray.empty x5 x7)).bind fun t183 => (if t183 = 0 then (if x7 > 0 then (if 0 ≤ (wrap64 (x7 - 1)) then (if (wrap64 (x7 - 1)) < (x0.length : Int) then ((path_Compare.f (rdOf ByteArray.empty x0 (wrap64 (x7 - 1))) (rdOf ByteArray.empty x5 x7)).bind fun t185 => (if t185 ≥ 0 then (some false) else ((scope_within.f (rdOf ByteArray.empty x0 (wrap64 (x7 - 1))) (rdOf ByteArray.empty x5 x7)).bind fun t187 => (if t187 = true then (some false) else (scope_May.l0 k x0 x5 x6 (wrap64 (x7 + 1))))))) else (none)) else (none)) else (scope_May.l0 k x0 x5 x6 (wrap64 (x7 + 1)))) else (some false))) else (none)) else (none)) else (some (decide ((x0.length : Int) ≤ 16)))
def scope_May.f (k : Nat) (l0 : List ByteArray) : Option (Bool) := scope_May.l0 k l0 l0 (l0.length : Int) 0
theorem scope_May.mono_l : ∀ k, (∀ y0 y1 y2 y3, LeO (scope_May.l0 k y0 y1 y2 y3) (scope_May.l0 (k + 1) y0 y1 y2 y3))
  | 0 => fun _ _ _ _ r h => by simp [scope_May.l0] at h
  | k + 1 => by
    have ih0 := scope_May.mono_l k
    · intro y0 y1 y2 y3
      unfold scope_May.l0
      repeat' first
      | (with_reducible exact ih0 _ _ _ _)
      | (with_reducible exact LeO.refl _)
      | (with_reducible exact LeO.none _)
      | (with_reducible refine LeO.ite ?_ ?_)
      | (with_reducible refine LeO.bind ?_ (fun _ => ?_))
      | exact ih0 _ _ _ _
      | exact LeO.none _
      | refine LeO.ite ?_ ?_
      | refine LeO.bind ?_ (fun _ => ?_)
theorem scope_May.mono : ∀ a0 k, LeO (scope_May.f k a0) (scope_May.f (k + 1) a0) := by
  intro a0 k
  have ih0 := scope_May.mono_l k
  unfold scope_May.f
  repeat' first
      | (with_reducible exact ih0 _ _ _ _)
      | (with_reducible exact LeO.refl _)
      | (with_reducible exact LeO.none _)
      | (with_reducible refine LeO.ite ?_ ?_)
      | (with_reducible refine LeO.bind ?_ (fun _ => ?_))
      | exact ih0 _ _ _ _
      | exact LeO.none _
      | refine LeO.ite ?_ ?_
      | refine LeO.bind ?_ (fun _ => ?_)
set_option maxHeartbeats 8000000 in
set_option maxRecDepth 100000 in
theorem scope_May.calls (k : Nat) (A0 : Option Addr) (c0 : Nat) (l0 : List ByteArray) (r : Bool) (w : World) (hr0 : Kd.C Kd.string w A0 l0.length l0) (hc0 : l0.length ≤ c0) (h : scope_May.f k l0 = some r) :
    Calls Tryd.prog 13 #[.slice A0 l0.length c0] w fun e w' => e = .returned (.bool r) ∧ Below w.heap.size w w' := by
  have HR0 := Aside0.mk hr0
  have HC0 := Aside0.mk hc0
  clear hr0 hc0
  have HB := Aside0.mk (Below.refl w.heap.size w)
  have H : (scope_May.l0 k l0 l0 (l0.length : Int) 0) = some r := h
  clear h
  have H' := Aside0.mk H
  clear H
  go_enter Tryd.func13, Tryd.ntmps13
  go_wp2
  go_loopg [7] k (fun kq v7 w' => ∃ (x7_1 : Int), v7 = .int .i64 x7_1 ∧ Aside0 (scope_May.l0 kq l0 l0 (l0.length : Int) x7_1 = some r) ∧ Aside0 (kq ≤ k) ∧ Aside0 (Below w.heap.size w w'))
  case atStart => exact ⟨(0), (by first | rfl | (simp; done) | (simp [*]; done)), H', ⟨Nat.le_refl _⟩, ⟨belU HB.out⟩⟩
  case round =>
    clear H'
    try clear c1
    obtain ⟨x7_1, rfl, HA, HK1, HB⟩ := hrel
    cases gk with
    | zero => exact absurd HA.out (by simp [scope_May.l0])
    | succ k1 =>
      have H := HA.out
      clear HA
      simp only [scope_May.l0] at H
      by_cases c2 : x7_1 < (l0.length : Int)
      · rw [if_pos c2] at H
        have c2b0 : decide (x7_1 < (l0.length : Int)) = true := decide_eq_true c2
        clear c2
        by_cases c3 : 0 ≤ x7_1
        · rw [if_pos c3] at H
          have c3b0 : decide (0 ≤ x7_1) = true := decide_eq_true c3
          clear c3
          by_cases c4 : x7_1 < (l0.length : Int)
          · rw [if_pos c4] at H
            have c4b0 : decide (x7_1 < (l0.length : Int)) = true := decide_eq_true c4
            clear c4
            replace H := Option.bind_eq_some_iff.mp H
            obtain ⟨t183, A50, H⟩ := H
            replace H : (if t183 = 0 then (if x7_1 > 0 then (if 0 ≤ (wrap64 (x7_1 - 1)) then (if (wrap64 (x7_1 - 1)) < (l0.length : Int) then ((path_Compare.f (rdOf ByteArray.empty l0 (wrap64 (x7_1 - 1))) (rdOf ByteArray.empty l0 x7_1)).bind fun t185 => (if t185 ≥ 0 then (some false) else ((scope_within.f (rdOf ByteArray.empty l0 (wrap64 (x7_1 - 1))) (rdOf ByteArray.empty l0 x7_1)).bind fun t187 => (if t187 = true then (some false) else (scope_May.l0 k1 l0 l0 (l0.length : Int) (wrap64 (x7_1 + 1))))))) else (none)) else (none)) else (scope_May.l0 k1 l0 l0 (l0.length : Int) (wrap64 (x7_1 + 1)))) else (some false)) = some r := H
            have A5 := Aside0.mk A50
            clear A50
            by_cases c6 : t183 = 0
            · rw [if_pos c6] at H
              have c6b0 : (t183 == 0) = true := beq_iff_eq.mpr c6
              have c6b1 : (t183 != 0) = false := bne_eq_false_iff_eq.mpr c6
              clear c6
              by_cases c7 : x7_1 > 0
              · rw [if_pos c7] at H
                have c7b0 : decide (0 < x7_1) = true := decide_eq_true c7
                clear c7
                obtain ⟨ji8, hji8⟩ : ∃ j_ : Int, (wrap64 (x7_1 - 1)) = j_ := ⟨_, rfl⟩
                replace H : (if 0 ≤ (ji8) then (if (ji8) < (l0.length : Int) then ((path_Compare.f (rdOf ByteArray.empty l0 (ji8)) (rdOf ByteArray.empty l0 x7_1)).bind fun t185 => (if t185 ≥ 0 then (some false) else ((scope_within.f (rdOf ByteArray.empty l0 (ji8)) (rdOf ByteArray.empty l0 x7_1)).bind fun t187 => (if t187 = true then (some false) else (scope_May.l0 k1 l0 l0 (l0.length : Int) (wrap64 (x7_1 + 1))))))) else (none)) else (none)) = some r := by first | (rw [hji8] at H; exact H) | (simp only [hji8] at H ⊢; exact H)
                (try rw [hji8] at A5)
                have hji8w : (IntKind.i64.wrap (x7_1 - 1)) = ji8 := (i64_w _).trans hji8
                by_cases c9 : 0 ≤ (ji8)
                · rw [if_pos c9] at H
                  have c9b0 : decide (0 ≤ (ji8)) = true := decide_eq_true c9
                  clear c9
                  by_cases c10 : (ji8) < (l0.length : Int)
                  · rw [if_pos c10] at H
                    have c10b0 : decide ((ji8) < (l0.length : Int)) = true := decide_eq_true c10
                    clear c10
                    replace H := Option.bind_eq_some_iff.mp H
                    obtain ⟨t185, A110, H⟩ := H
                    replace H : (if t185 ≥ 0 then (some false) else ((scope_within.f (rdOf ByteArray.empty l0 (ji8)) (rdOf ByteArray.empty l0 x7_1)).bind fun t187 => (if t187 = true then (some false) else (scope_May.l0 k1 l0 l0 (l0.length : Int) (wrap64 (x7_1 + 1)))))) = some r := H
                    have A11 := Aside0.mk A110
                    clear A110
                    by_cases c12 : t185 ≥ 0
                    · rw [if_pos c12] at H
                      have c12b0 : decide (0 ≤ t185) = true := decide_eq_true c12
                      clear c12
                      obtain rfl := Option.some.inj H
                      have p182 : 0 ≤ (x7_1 : Int) := of_decide_eq_true (by first | (with_reducible assumption) | assumption)
                      have q182 : x7_1 < (l0.length : Int) := of_decide_eq_true (by first | (with_reducible assumption) | assumption)
                      obtain ⟨ad182, e182, hx182_0⟩ := Kd.at_string HR0.out x7_1 p182 q182
                      cases e182
                      replace hx182_0 := (HB.out.cell (World.block_lt_of_cell? w _ hx182_0)).trans hx182_0
                      replace p182 := eq_true p182
                      replace q182 := eq_true q182
                      go_wp2_with (first | ((with_reducible refine gate_callee (f := 28) rfl ?_); refine goesL_ (some 13) rfl rfl Tryd.func28 (by kernel_rfl) rfl #[.string (rdOf ByteArray.empty l0 x7_1)] rfl (by (try simp only [List.map_toArray, List.map_cons, List.map_nil]); first | done | rfl | (simp only [List.length_drop, List.length_take]; rfl)) ?_; (with_reducible refine (scope_dir.calls (rdOf ByteArray.empty l0 x7_1) t183 _ A5.out).mono ?_); rintro e w13 ⟨rfl, hb⟩; refine ⟨_, rfl, ?_⟩; have n0_ := Aside0.mk (below_step (belU HB.out) hb); clear HB; have HB := n0_; clear n0_; (try clear hb); (try clear hb2); (try clear hk); (try clear hi); have p184 : 0 ≤ ((ji8) : Int) := of_decide_eq_true (by first | (with_reducible assumption) | assumption); have q184 : (ji8) < (l0.length : Int) := of_decide_eq_true (by first | (with_reducible assumption) | assumption); obtain ⟨ad184, e184, hx184_0⟩ := Kd.at_string HR0.out (ji8) p184 q184; obtain rfl : ad182 = ad184 := (by injection e184); replace hx184_0 := (HB.out.cell (World.block_lt_of_cell? w _ hx184_0)).trans hx184_0; replace p184 := eq_true p184; replace q184 := eq_true q184) | (go_at_call 32; (with_reducible refine (path_Compare.calls (rdOf ByteArray.empty l0 (ji8)) (rdOf ByteArray.empty l0 x7_1) t185 _ A11.out).mono ?_); rintro e w14 ⟨rfl, hb⟩; have n0_ := Aside0.mk (below_step (belU HB.out) hb); clear HB; have HB := n0_; clear n0_; (try clear hb); (try clear hb2); (try clear hk); (try clear hi)))
                      go_ret
                      exact ⟨by first | rfl | (simp [errW_none, errW_some] <;> rfl) | (simp only [← hji8]; first | rfl | (simp [errW_none, errW_some] <;> rfl)) | (simp [*, errW_none, errW_some] <;> rfl), belU HB.out⟩
                    · rw [if_neg c12] at H
                      have c12b0 : decide (0 ≤ t185) = false := decide_eq_false c12
                      clear c12
                      replace H := Option.bind_eq_some_iff.mp H
                      obtain ⟨t187, A150, H⟩ := H
                      replace H : (if t187 = true then (some false) else (scope_May.l0 k1 l0 l0 (l0.length : Int) (wrap64 (x7_1 + 1)))) = some r := H
                      have A15 := Aside0.mk A150
                      clear A150
                      by_cases c16 : t187 = true
                      · subst c16
                        have H1 : (some false) = some r := by rw [if_pos rfl] at H; exact H
                        clear H
                        have H := H1
                        clear H1
                        obtain rfl := Option.some.inj H
                        have p182 : 0 ≤ (x7_1 : Int) := of_decide_eq_true (by first | (with_reducible assumption) | assumption)
                        have q182 : x7_1 < (l0.length : Int) := of_decide_eq_true (by first | (with_reducible assumption) | assumption)
                        obtain ⟨ad182, e182, hx182_0⟩ := Kd.at_string HR0.out x7_1 p182 q182
                        cases e182
                        replace hx182_0 := (HB.out.cell (World.block_lt_of_cell? w _ hx182_0)).trans hx182_0
                        replace p182 := eq_true p182
                        replace q182 := eq_true q182
                        go_wp2_with (first | ((with_reducible refine gate_callee (f := 28) rfl ?_); refine goesL_ (some 13) rfl rfl Tryd.func28 (by kernel_rfl) rfl #[.string (rdOf ByteArray.empty l0 x7_1)] rfl (by (try simp only [List.map_toArray, List.map_cons, List.map_nil]); first | done | rfl | (simp only [List.length_drop, List.length_take]; rfl)) ?_; (with_reducible refine (scope_dir.calls (rdOf ByteArray.empty l0 x7_1) t183 _ A5.out).mono ?_); rintro e w17 ⟨rfl, hb⟩; refine ⟨_, rfl, ?_⟩; have n0_ := Aside0.mk (below_step (belU HB.out) hb); clear HB; have HB := n0_; clear n0_; (try clear hb); (try clear hb2); (try clear hk); (try clear hi); have p184 : 0 ≤ ((ji8) : Int) := of_decide_eq_true (by first | (with_reducible assumption) | assumption); have q184 : (ji8) < (l0.length : Int) := of_decide_eq_true (by first | (with_reducible assumption) | assumption); obtain ⟨ad184, e184, hx184_0⟩ := Kd.at_string HR0.out (ji8) p184 q184; obtain rfl : ad182 = ad184 := (by injection e184); replace hx184_0 := (HB.out.cell (World.block_lt_of_cell? w _ hx184_0)).trans hx184_0; replace p184 := eq_true p184; replace q184 := eq_true q184) | (go_at_call 32; (with_reducible refine (path_Compare.calls (rdOf ByteArray.empty l0 (ji8)) (rdOf ByteArray.empty l0 x7_1) t185 _ A11.out).mono ?_); rintro e w18 ⟨rfl, hb⟩; have n0_ := Aside0.mk (below_step (belU HB.out) hb); clear HB; have HB := n0_; clear n0_; (try clear hb); (try clear hb2); (try clear hk); (try clear hi); have p186 : 0 ≤ ((ji8) : Int) := of_decide_eq_true (by first | (with_reducible assumption) | assumption); have q186 : (ji8) < (l0.length : Int) := of_decide_eq_true (by first | (with_reducible assumption) | assumption); obtain ⟨ad186, e186, hx186_0⟩ := Kd.at_string HR0.out (ji8) p186 q186; obtain rfl : ad182 = ad186 := (by injection e186); replace hx186_0 := (HB.out.cell (World.block_lt_of_cell? w _ hx186_0)).trans hx186_0; replace p186 := eq_true p186; replace q186 := eq_true q186) | (go_at_call 33; (with_reducible refine (scope_within.calls (rdOf ByteArray.empty l0 (ji8)) (rdOf ByteArray.empty l0 x7_1) true _ A15.out).mono ?_); rintro e w19 ⟨rfl, hb⟩; have n0_ := Aside0.mk (below_step (belU HB.out) hb); clear HB; have HB := n0_; clear n0_; (try clear hb); (try clear hb2); (try clear hk); (try clear hi)))
                        go_ret
                        exact ⟨by first | rfl | (simp [errW_none, errW_some] <;> rfl) | (simp only [← hji8]; first | rfl | (simp [errW_none, errW_some] <;> rfl)) | (simp [*, errW_none, errW_some] <;> rfl), belU HB.out⟩
                      · replace c16 := Bool.eq_false_iff.mpr c16
                        subst c16
                        have H1 : (scope_May.l0 k1 l0 l0 (l0.length : Int) (wrap64 (x7_1 + 1))) = some r := by rw [if_neg (show ¬ (false = true) by decide)] at H; exact H
                        clear H
                        have H := H1
                        clear H1
                        have H' := Aside0.mk H
                        clear H
                        have p182 : 0 ≤ (x7_1 : Int) := of_decide_eq_true (by first | (with_reducible assumption) | assumption)
                        have q182 : x7_1 < (l0.length : Int) := of_decide_eq_true (by first | (with_reducible assumption) | assumption)
                        obtain ⟨ad182, e182, hx182_0⟩ := Kd.at_string HR0.out x7_1 p182 q182
                        cases e182
                        replace hx182_0 := (HB.out.cell (World.block_lt_of_cell? w _ hx182_0)).trans hx182_0
                        replace p182 := eq_true p182
                        replace q182 := eq_true q182
                        go_wp2_with (first | ((with_reducible refine gate_callee (f := 28) rfl ?_); refine goesL_ (some 13) rfl rfl Tryd.func28 (by kernel_rfl) rfl #[.string (rdOf ByteArray.empty l0 x7_1)] rfl (by (try simp only [List.map_toArray, List.map_cons, List.map_nil]); first | done | rfl | (simp only [List.length_drop, List.length_take]; rfl)) ?_; (with_reducible refine (scope_dir.calls (rdOf ByteArray.empty l0 x7_1) t183 _ A5.out).mono ?_); rintro e w20 ⟨rfl, hb⟩; refine ⟨_, rfl, ?_⟩; have n0_ := Aside0.mk (below_step (belU HB.out) hb); clear HB; have HB := n0_; clear n0_; (try clear hb); (try clear hb2); (try clear hk); (try clear hi); have p184 : 0 ≤ ((ji8) : Int) := of_decide_eq_true (by first | (with_reducible assumption) | assumption); have q184 : (ji8) < (l0.length : Int) := of_decide_eq_true (by first | (with_reducible assumption) | assumption); obtain ⟨ad184, e184, hx184_0⟩ := Kd.at_string HR0.out (ji8) p184 q184; obtain rfl : ad182 = ad184 := (by injection e184); replace hx184_0 := (HB.out.cell (World.block_lt_of_cell? w _ hx184_0)).trans hx184_0; replace p184 := eq_true p184; replace q184 := eq_true q184) | (go_at_call 32; (with_reducible refine (path_Compare.calls (rdOf ByteArray.empty l0 (ji8)) (rdOf ByteArray.empty l0 x7_1) t185 _ A11.out).mono ?_); rintro e w21 ⟨rfl, hb⟩; have n0_ := Aside0.mk (below_step (belU HB.out) hb); clear HB; have HB := n0_; clear n0_; (try clear hb); (try clear hb2); (try clear hk); (try clear hi); have p186 : 0 ≤ ((ji8) : Int) := of_decide_eq_true (by first | (with_reducible assumption) | assumption); have q186 : (ji8) < (l0.length : Int) := of_decide_eq_true (by first | (with_reducible assumption) | assumption); obtain ⟨ad186, e186, hx186_0⟩ := Kd.at_string HR0.out (ji8) p186 q186; obtain rfl : ad182 = ad186 := (by injection e186); replace hx186_0 := (HB.out.cell (World.block_lt_of_cell? w _ hx186_0)).trans hx186_0; replace p186 := eq_true p186; replace q186 := eq_true q186) | (go_at_call 33; (with_reducible refine (scope_within.calls (rdOf ByteArray.empty l0 (ji8)) (rdOf ByteArray.empty l0 x7_1) false _ A15.out).mono ?_); rintro e w22 ⟨rfl, hb⟩; have n0_ := Aside0.mk (below_step (belU HB.out) hb); clear HB; have HB := n0_; clear n0_; (try clear hb); (try clear hb2); (try clear hk); (try clear hi)))
                        go_roundg k1
                        case measure => have := HK1.out; omega
                        case rel => exact ⟨(wrap64 (x7_1 + 1)), (by first | rfl | (simp; done) | (simp [*]; done)), H', ⟨by have := HK1.out; omega⟩, ⟨belU HB.out⟩⟩
                  · rw [if_neg c10] at H
                    exact absurd H (by simp)
                · rw [if_neg c9] at H
                  exact absurd H (by simp)
              · rw [if_neg c7] at H
                have c7b0 : decide (0 < x7_1) = false := decide_eq_false c7
                clear c7
                have H' := Aside0.mk H
                clear H
                have p182 : 0 ≤ (x7_1 : Int) := of_decide_eq_true (by first | (with_reducible assumption) | assumption)
                have q182 : x7_1 < (l0.length : Int) := of_decide_eq_true (by first | (with_reducible assumption) | assumption)
                obtain ⟨ad182, e182, hx182_0⟩ := Kd.at_string HR0.out x7_1 p182 q182
                cases e182
                replace hx182_0 := (HB.out.cell (World.block_lt_of_cell? w _ hx182_0)).trans hx182_0
                replace p182 := eq_true p182
                replace q182 := eq_true q182
                go_wp2_with (first | ((with_reducible refine gate_callee (f := 28) rfl ?_); refine goesL_ (some 13) rfl rfl Tryd.func28 (by kernel_rfl) rfl #[.string (rdOf ByteArray.empty l0 x7_1)] rfl (by (try simp only [List.map_toArray, List.map_cons, List.map_nil]); first | done | rfl | (simp only [List.length_drop, List.length_take]; rfl)) ?_; (with_reducible refine (scope_dir.calls (rdOf ByteArray.empty l0 x7_1) t183 _ A5.out).mono ?_); rintro e w23 ⟨rfl, hb⟩; refine ⟨_, rfl, ?_⟩; have n0_ := Aside0.mk (below_step (belU HB.out) hb); clear HB; have HB := n0_; clear n0_; (try clear hb); (try clear hb2); (try clear hk); (try clear hi)))
                go_roundg k1
                case measure => have := HK1.out; omega
                case rel => exact ⟨(wrap64 (x7_1 + 1)), (by first | rfl | (simp; done) | (simp [*]; done)), H', ⟨by have := HK1.out; omega⟩, ⟨belU HB.out⟩⟩
            · rw [if_neg c6] at H
              have c6b0 : (t183 == 0) = false := beq_eq_false_iff_ne.mpr c6
              have c6b1 : (t183 != 0) = true := bne_iff_ne.mpr c6
              obtain rfl := Option.some.inj H
              have p182 : 0 ≤ (x7_1 : Int) := of_decide_eq_true (by first | (with_reducible assumption) | assumption)
              have q182 : x7_1 < (l0.length : Int) := of_decide_eq_true (by first | (with_reducible assumption) | assumption)
              obtain ⟨ad182, e182, hx182_0⟩ := Kd.at_string HR0.out x7_1 p182 q182
              cases e182
              replace hx182_0 := (HB.out.cell (World.block_lt_of_cell? w _ hx182_0)).trans hx182_0
              replace p182 := eq_true p182
              replace q182 := eq_true q182
              go_wp2_with (first | ((with_reducible refine gate_callee (f := 28) rfl ?_); refine goesL_ (some 13) rfl rfl Tryd.func28 (by kernel_rfl) rfl #[.string (rdOf ByteArray.empty l0 x7_1)] rfl (by (try simp only [List.map_toArray, List.map_cons, List.map_nil]); first | done | rfl | (simp only [List.length_drop, List.length_take]; rfl)) ?_; (with_reducible refine (scope_dir.calls (rdOf ByteArray.empty l0 x7_1) t183 _ A5.out).mono ?_); rintro e w24 ⟨rfl, hb⟩; refine ⟨_, rfl, ?_⟩; have n0_ := Aside0.mk (below_step (belU HB.out) hb); clear HB; have HB := n0_; clear n0_; (try clear hb); (try clear hb2); (try clear hk); (try clear hi)))
              go_ret
              exact ⟨by first | rfl | (simp [errW_none, errW_some] <;> rfl) | (simp [*, errW_none, errW_some] <;> rfl), belU HB.out⟩
          · rw [if_neg c4] at H
            exact absurd H (by simp)
        · rw [if_neg c3] at H
          exact absurd H (by simp)
      · rw [if_neg c2] at H
        have c2b0 : decide (x7_1 < (l0.length : Int)) = false := decide_eq_false c2
        clear c2
        obtain rfl := Option.some.inj H
        go_wp2
        go_ret
        exact ⟨by first | rfl | (simp [errW_none, errW_some] <;> rfl) | (simp [*, errW_none, errW_some] <;> rfl), belU HB.out⟩

end Go.Proofs.YtkflalaocnghcaaDoor.Q
