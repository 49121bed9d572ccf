/- Parts of the proof: K0, K1, K2, Q0, OpenQ, KP, PP, HSplit, HLib, K3, K6, K7, K8, K9, KA, HCmp, KM, HChk, K4, Q7, HTot, HSrt, PO, HOrd0, HOrd, HVic, Q2, Q17, PLru. -/
import Derived.WalkKit
import Derived.Test.YtdggdmdefmljlaaDoorWWords
import Derived.Test.YtdggdmdefmljlaaDoorWMore
import Derived.Deep.Slices
import Derived.ChangeArms
import Derived.SizedLaws
import Derived.Test.YtdggdmdefmljlaaDoorProg
import Derived.Below
import Derived.Deep.Draws
import Derived.Deep.AppendLies
import Derived.Maps.AppendAt
import Derived.OwnWalk
import Derived.Laws.BytesArg
import Derived.Laws.MakeOwn
import Derived.Laws.OwnMore
import Derived.Deep.OwnRows
import Derived.Tactics
import Derived.Lib.ConvBytes
import Derived.Laws.Slices
import Derived.KernelRfl
import Derived.RowKit3
import Derived.Deep.LoopGhost
import Derived.Deep.QuietTactic
import Derived.BigQuiet
import Derived.WideLaws
import Derived.Deep.DeepCutAuto
import Derived.Deep.CutBlock
import Derived.Deep.RegionHeld3
import Derived.Laws.Rows
import Derived.Lib.AppendStr
import Derived.ArgAppend
import Derived.Laws.IdiomCopy
import Derived.OrdersHeld
import Derived.Laws.BitsLemmas
import Derived.RowKit
import Derived.Test.YtdggdmdefmljlaaDoorWLast
import Derived.Test.YtdggdmdefmljlaaDoorWTab
import Derived.Test.YtdggdmdefmljlaaDoorWQPut
import Derived.Test.YtdggdmdefmljlaaDoorWApart
import Derived.Test.YtdggdmdefmljlaaDoorWArr
import Derived.Test.YtdggdmdefmljlaaDoorWZeros
import Derived.Test.YtdggdmdefmljlaaDoorWFoot
import Derived.Test.YtdggdmdefmljlaaDoorWKept
import Derived.Test.YtdggdmdefmljlaaDoorWShare
import Derived.Test.YtdggdmdefmljlaaDoorWN
import Derived.Test.YtdggdmdefmljlaaDoorWEqStruct
import Derived.Test.YtdggdmdefmljlaaDoorWRepsOne
import Derived.Test.YtdggdmdefmljlaaDoorWGuard
import Derived.Test.YtdggdmdefmljlaaDoorWNEv
import Derived.OpenShut
import Derived.ChangeKeysEq
import Derived.Lib.SplitLaws
import Derived.Lib.Bytealg
import Derived.Shelf.Strings.Split
import Derived.Lib.IndexBytes
import Derived.Shelf.Small.Strs
import Derived.Shelf.SlicesG.Cmp
import Derived.Shelf.SlSortCmp.WholeK
import Derived.Laws.IdiomStrings
import Derived.Lib.BufferWrite
import Derived.Laws.CopyRow
import Derived.Shelf.SlSortCmp.Insertion
import Derived.Maps.OwnSet
import Derived.StringKeys
import Derived.Carry
import Derived.Shelf.SlSortCmp.InsertionK
import Derived.Shelf.SlSortCmp.NoneTotal
namespace Go.Proofs.YtdggdmdefmljlaaDoorK
open Go
theorem isSome_set (c : Array Value) (i j : Nat) (v : Value) : (c.setIfInBounds i v)[j]?.isSome = c[j]?.isSome := by
  rw [Array.getElem?_setIfInBounds]
  split
  · rename_i h
    subst h
    by_cases h2 : i < c.size
    · simp [h2]
    · rw [if_neg h2, Array.getElem?_eq_none (by omega)]
  · rfl
theorem isSome_setCell (w : World) (a b : Addr) (v : Value) : ((w.setCell a v).cell? b).isSome = (w.cell? b).isSome := by
  simp only [World.setCell, World.cell?, Array.getElem?_modify]
  by_cases hb : a.block = b.block
  · simp only [hb, if_true]
    cases hh : w.heap[b.block]? with
    | none => simp
    | some x =>
      cases x <;> simp
      split
      · rfl
      · split
        · rfl
        · exact isSome_set _ _ _ _
  · simp only [if_neg hb]
end Go.Proofs.YtdggdmdefmljlaaDoorK

namespace Go.Proofs.YtdggdmdefmljlaaDoorK
open Go Go.RowKit Go.Proofs.YtdggdmdefmljlaaDoorW.PrintWords
section
variable {P : Program} {ops : Array Oper} {rest : List Oper} {o : Oper} {a : Act} {Q : Exit → Act → World → Prop} {Kc : Act → World → Prop}

theorem run_append_string_at (W : World) (base : Nat) (t u ty e : TypeId) (i : TypeInfo) (ht : P.underlying t = some (.slice e)) (hu : P.underlying u = some .string) (hi : P.info? e = some i) (hz : i.zero = some (.int .u8 0)) (hsize : i.size = 1) (hby : i.bytes = 1)
    (v : Value) (n : Nat) (xs : List Value) (hown : W.ownsRow base e 1 v n xs) (s : ByteArray) (hb : n + s.size ≤ 140737488355328) (hbase : base ≤ W.heap.size) :
    ∃ v1 w1, (Builtin.append_ #[t, u] ty #[v, .string s]).run P W = .ok v1 w1 ∧ w1.ownsRow base e 1 v1 (n + s.size) (xs ++ Lib.strCells s) ∧ W.grownBy w1 v.ownBlock ∧ (v1.ownBlock = v.ownBlock ∨ ∃ b, v1.ownBlock = some b ∧ W.heap.size ≤ b) := by
  have h63 : n + s.size ≤ maxLen := by simp only [maxLen]; omega
  obtain ⟨v1, w1, hr, h2, h3, h4⟩ := Lib.run_append_own_string (P := P) W base t u ty e i ht hu hi hz hsize hby v n xs hown s h63 hb hbase
  refine ⟨v1, w1, hr, h2, h3, ?_⟩
  rcases hown.2 with ⟨rfl, h0⟩ | ⟨g, cap, cur, rfl, hbg, hg, hnc, hcm, hcs, htake⟩
  · by_cases hm : s.size = 0
    · exact .inl (by rw [h4.2 ⟨rfl, hm⟩])
    · have hr' := run_append_nil_string (P := P) W t u ty e i (.int .u8 0) ht hu hi hz s (by omega) (by omega) (by rw [hby]; omega)
      have hj := hr.symm.trans hr'
      injection hj with hv _
      exact .inr ⟨W.heap.size, by rw [hv]; rfl, Nat.le_refl _⟩
  · by_cases hroom : n + s.size ≤ cap
    · have hcs' : cur.size = cap := by simpa using hcs
      have hr' := Lib.run_append_room_string (P := P) W t u ty e i ht hu hi hsize g n cap cur hg s hroom (by omega)
      have hj := hr.symm.trans hr'
      injection hj with hv _
      exact .inl (by rw [hv]; rfl)
    · have holds : ∀ j x, xs[j]? = some x → W.cell? ((⟨g, 0, none⟩ : Addr).add j) = some x := hown.cells (g := g) rfl
      have hxl : xs.length = n := by simpa using hown.1
      have hr' := Lib.run_append_grow_string (P := P) W t u ty e i (.int .u8 0) ht hu hi hz ⟨g, 0, none⟩ n cap xs (by rw [hsize]; simpa using hxl) holds s (by omega) (by omega) (by rw [hby]; exact growslice_fits (by omega) (by omega))
      have hj := hr.symm.trans hr'
      injection hj with hv _
      exact .inr ⟨W.heap.size, by rw [hv]; rfl, Nat.le_refl _⟩

theorem R_of_string {W w1 : World} {base : Nat} {e : TypeId} {ok : Nat → Prop} {v v1 : Value} {xs : List Int} {y : ByteArray} (h0 : ∀ k, v.ownBlock = some k → ok k) (hfresh : ∀ k, W.heap.size ≤ k → ok k)
    (h2 : w1.ownsRow base e 1 v1 (xs.length + y.size) (nums .u8 xs ++ Lib.strCells y)) (hat : v1.ownBlock = v.ownBlock ∨ ∃ b, v1.ownBlock = some b ∧ W.heap.size ≤ b) :
    (Kd.int .u8).R e w1 base ok v1 (xs ++ bytesOf y) := by
  have hl2 : (xs ++ bytesOf y).length = xs.length + y.size := by rw [List.length_append, bytesOf_length]
  have hc : nums .u8 (xs ++ bytesOf y) = nums .u8 xs ++ Lib.strCells y := by
    rw [nums_append]
    congr 1
    simp [nums, bytesOf, Lib.strCells]
  refine Kd.R_of_own (h1 := fun _ => rfl) ?_ ?_
  · rw [hl2]
    have : encs (Value.int .u8) (xs ++ bytesOf y) = nums .u8 (xs ++ bytesOf y) := rfl
    rw [this, hc]
    exact h2
  · intro k hk
    rcases hat with hat | ⟨b, hb, hle⟩
    · exact h0 k (hat ▸ hk)
    · rw [hb] at hk
      injection hk with hk
      exact hfresh k (by omega)

theorem R_append_str {w0 W : World} (base : Nat) (hgd : o.guard = none) (s x : Operand) (t u e : TypeId)
    (ho : o.op = .call { callee := .builtin .append, args := #[s, x], argTypes := #[t, u] })
    (ht : P.underlying t = some (.slice e)) (hu : P.underlying u = some .string) (hinfo : (P.info? e).map (fun i => (i.zero, i.size, i.bytes)) = some (some (.int .u8 0), 1, 1))
    (v : Value) (xs : List Int) (y : ByteArray) (ok : Nat → Prop) (hs : a.eval s = v) (hx : a.eval x = .string y) (hfresh : ∀ k, W.heap.size ≤ k → ok k)
    (HO : (Kd.int .u8).R e W base ok v xs) (HB : Below base w0 W) (hbase : base ≤ W.heap.size) (hl : xs.length + y.size ≤ 140737488355328)
    (h : ∀ v1 w1, (Kd.int .u8).R e w1 base ok v1 (xs ++ bytesOf y) → Below base w0 w1 → W.grownBy w1 v.ownBlock → (v1.ownBlock = v.ownBlock ∨ ∃ b, v1.ownBlock = some b ∧ W.heap.size ≤ b) → wpList P ops Q rest (a.put o.dst v1) w1) :
    wpList P ops Q (o :: rest) a W := by
  obtain ⟨i0, hi, hzz⟩ := Option.map_eq_some_iff.1 hinfo
  simp only [Prod.mk.injEq] at hzz
  obtain ⟨hz0, hz1, hz2⟩ := hzz
  have hown := Kd.own_of_R HO
  refine wpList_plain hgd fun K hK => ?_
  obtain ⟨v1, w1, hr, h2, h3, hat⟩ := run_append_string_at (P := P) W base t u o.type e i0 ht hu hi hz0 hz1 hz2 v xs.length (encs (Value.int .u8) xs) hown y hl hbase
  unfold Oper.wp execOp
  simp only [ho, resolve, invoke, builtin, Sem.run_bind, Sem.run_pure, Result.andThen_ok, List.map_toArray, List.map_cons, List.map_nil, hs, hx, hr]
  exact hK _ _ (h v1 w1 (R_of_string HO.1 hfresh h2 hat) (HB.grown h3 hbase (own_base hown)) h3 hat)

theorem R_append_str_step {w0 W : World} (base : Nat) (hw : Region.wanted o (yielded ops a.tmps) = true) (s x : Operand) (t u e : TypeId)
    (ho : o.op = .call { callee := .builtin .append, args := #[s, x], argTypes := #[t, u] })
    (ht : P.underlying t = some (.slice e)) (hu : P.underlying u = some .string) (hinfo : (P.info? e).map (fun i => (i.zero, i.size, i.bytes)) = some (some (.int .u8 0), 1, 1))
    (v : Value) (xs : List Int) (y : ByteArray) (ok : Nat → Prop) (hs : a.eval s = v) (hx : a.eval x = .string y) (hfresh : ∀ k, W.heap.size ≤ k → ok k)
    (HO : (Kd.int .u8).R e W base ok v xs) (HB : Below base w0 W) (hbase : base ≤ W.heap.size) (hl : xs.length + y.size ≤ 140737488355328)
    (h : ∀ v1 w1, (Kd.int .u8).R e w1 base ok v1 (xs ++ bytesOf y) → Below base w0 w1 → W.grownBy w1 v.ownBlock → (v1.ownBlock = v.ownBlock ∨ ∃ b, v1.ownBlock = some b ∧ W.heap.size ≤ b) → Kc (a.put o.dst v1) w1) :
    if Region.wanted o (yielded ops a.tmps) = true then Oper.wp P o a W Kc Q else Kc (a.put o.dst undef) W := by
  obtain ⟨i0, hi, hzz⟩ := Option.map_eq_some_iff.1 hinfo
  simp only [Prod.mk.injEq] at hzz
  obtain ⟨hz0, hz1, hz2⟩ := hzz
  have hown := Kd.own_of_R HO
  rw [if_pos hw]
  obtain ⟨v1, w1, hr, h2, h3, hat⟩ := run_append_string_at (P := P) W base t u o.type e i0 ht hu hi hz0 hz1 hz2 v xs.length (encs (Value.int .u8) xs) hown y hl hbase
  unfold Oper.wp execOp
  simp only [ho, resolve, invoke, builtin, Sem.run_bind, Sem.run_pure, Result.andThen_ok, List.map_toArray, List.map_cons, List.map_nil, hs, hx, hr]
  exact h v1 w1 (R_of_string HO.1 hfresh h2 hat) (HB.grown h3 hbase (own_base hown)) h3 hat
end
end Go.Proofs.YtdggdmdefmljlaaDoorK

namespace Go.Proofs.YtdggdmdefmljlaaDoorK
open Go Go.RowKit Go.ChangeShapes Go.WideShapes Go.Deep Go.Proofs.YtdggdmdefmljlaaDoorW.PrintWords
/-! What comes in, as a kind tells it: by the type's shape. -/
def Opens (P : Program) (t : TypeId) {α : Type} (d : Kd α) (good : α → Prop) : Prop :=
  ∀ (H : Type) (enc : TypeId × Value → H) (w : World) (base : Nat) (spare : Nat → Bool) (held : Bool) (fuel : Nat) (cs : List Value) (x : DataW H × List MemPlace), DataW.trod enc P w base spare held fuel t cs = some x → ∃ a, d.K w a cs ∧ good a
theorem pick_list {α : Type} {p : Nat → α → Prop} (n : Nat) (h : ∀ i, i < n → ∃ a, p i a) : ∃ l : List α, l.length = n ∧ ∀ i a, l[i]? = some a → p i a := by
  induction n with
  | zero => exact ⟨[], rfl, by simp⟩
  | succ n ih =>
    obtain ⟨l, hll, hlp⟩ := ih (fun i hi => h i (by omega))
    obtain ⟨a, ha⟩ := h n (by omega)
    refine ⟨l ++ [a], by simp [hll], fun i q hq => ?_⟩
    rcases Nat.lt_or_ge i n with hi | hi
    · rw [List.getElem?_append_left (by omega)] at hq
      exact hlp i q hq
    · rw [List.getElem?_append_right (by omega)] at hq
      have hi2 : i = n := by
        have h1 := (List.getElem?_eq_some_iff.1 hq).1
        simp at h1
        omega
      subst hi2
      rw [hll] at hq
      simp at hq
      subst hq
      exact ha
section
variable {P : Program} {t e : TypeId} {α β γ : Type}
theorem opens_int {k : IntKind} (ht : P.underlying t = some (.int k)) : Opens P t (Kd.int k) (fun n => (Lit.int k n).wf = true) := by
  intro H enc w base spare held fuel cs x h
  obtain ⟨n, rfl, _, hw⟩ := DataW.trod_int ht h
  exact ⟨n, rfl, hw⟩
theorem opens_bool (ht : P.underlying t = some .bool) : Opens P t Kd.bool (fun _ => True) := by
  intro H enc w base spare held fuel cs x h
  obtain ⟨b, rfl, _⟩ := DataW.trod_bool ht h
  exact ⟨b, rfl, trivial⟩
theorem opens_string (ht : P.underlying t = some .string) : Opens P t Kd.string (fun s => s.size ≤ 9223372036854775807) := by
  intro H enc w base spare held fuel cs x h
  obtain ⟨s, rfl, _, hs⟩ := DataW.trod_string ht h
  exact ⟨s, rfl, by unfold maxLen at hs; exact hs⟩
theorem opens_slice {d : Kd α} {good : α → Prop} (ht : P.underlying t = some (.slice e)) (hs : P.cellsOf e = d.sz) (ho : Opens P e d good) : Opens P t (Kd.slice e d) (fun l => l.length ≤ 9223372036854775807 ∧ ∀ a ∈ l, good a) := by
  intro H enc w base spare held fuel cs x h
  rcases open_slice ht h with ⟨rfl, _⟩ | ⟨a, len, cap, m, n, D, Pl, rfl, _, hl, hm, hmm, _, hx⟩
  · exact ⟨[], ⟨none, 0, rfl, Nat.le_refl _, Kd.C_nil d w⟩, by simp, by simp⟩
  · have hlm : len ≤ m := by rw [hmm]; split <;> omega
    unfold maxLen at hm
    have key : ∀ i, i < len → ∃ p : α, (∃ c, c.length = d.sz ∧ d.K w p c ∧ ∀ j u, c[j]? = some u → w.cell? (a.add (i * d.sz + j)) = some u) ∧ good p := by
      intro i hi
      obtain ⟨c, hc, hd⟩ := hx i (by omega)
      obtain ⟨p, hK, hg⟩ := ho _ _ _ _ _ _ _ _ _ hd
      obtain ⟨_, hcl, hat⟩ := World.cells?_some hc
      refine ⟨p, ⟨c, by rw [hcl, hs], hK, fun j u hj => ?_⟩, hg⟩
      have hjl : j < c.length := (List.getElem?_eq_some_iff.1 hj).1
      have h1 := hat j (by omega)
      rw [Go.Deep.add_add, hs, hj] at h1
      exact h1
    obtain ⟨l, hll, hlp⟩ := pick_list len key
    refine ⟨l, ⟨some a, cap, by rw [hll], by omega, rfl, by omega, fun _ => ⟨a, rfl, fun j p hj => (hlp j p hj).1⟩⟩, by omega, fun p hp => ?_⟩
    obtain ⟨i, hi, rfl⟩ := List.getElem_of_mem hp
    exact (hlp i _ (List.getElem?_eq_getElem hi)).2
/-- Fields from an offset on. -/
def OpensAt (P : Program) (l : List Field) (o : Nat) {α : Type} (d : Kd α) (good : α → Prop) : Prop :=
  ∀ (H : Type) (enc : TypeId × Value → H) (w : World) (base : Nat) (spare : Nat → Bool) (held : Bool) (n : Nat) (cs : List Value), (∀ f ∈ l, ∃ x, DataW.trod enc P w base spare held n f.type ((cs.drop f.offset).take (P.cellsOf f.type)) = some x) → cs.length = o + d.sz → ∃ a, d.K w a (cs.drop o) ∧ good a
theorem opensAt_last {f : Field} {o : Nat} {d : Kd α} {good : α → Prop} (hoff : f.offset = o) (hsz : P.cellsOf f.type = d.sz) (ho : Opens P f.type d good) : OpensAt P [f] o d good := by
  intro H enc w base spare held n cs h hl
  obtain ⟨x, hx⟩ := h f List.mem_cons_self
  rw [hoff, hsz, List.take_of_length_le (by rw [List.length_drop]; omega)] at hx
  exact ho _ _ _ _ _ _ _ _ _ hx
theorem opensAt_cons {f : Field} {l : List Field} {o : Nat} {d1 : Kd α} {d2 : Kd β} {g1 : α → Prop} {g2 : β → Prop} (hoff : f.offset = o) (hsz : P.cellsOf f.type = d1.sz) (ho : Opens P f.type d1 g1) (hr : OpensAt P l (o + d1.sz) d2 g2) :
    OpensAt P (f :: l) o (Kd.pair d1 d2) (fun p => g1 p.1 ∧ g2 p.2) := by
  intro H enc w base spare held n cs h hl
  have hl' : cs.length = o + d1.sz + d2.sz := by rw [hl]; exact (Nat.add_assoc _ _ _).symm
  obtain ⟨x, hx⟩ := h f List.mem_cons_self
  rw [hoff, hsz] at hx
  obtain ⟨a, hK, hg⟩ := ho _ _ _ _ _ _ _ _ _ hx
  obtain ⟨b, hKb, hgb⟩ := hr H enc w base spare held n cs (fun f hf => h f (List.mem_cons_of_mem _ hf)) hl'
  refine ⟨(a, b), ⟨(cs.drop o).take d1.sz, cs.drop (o + d1.sz), ?_, hK, hKb⟩, hg, hgb⟩
  rw [← List.drop_drop, List.take_append_drop]
theorem opens_struct {fs : Array Field} {d : Kd α} {good : α → Prop} (ht : P.underlying t = some (.struct fs)) (hC : P.cellsOf t = d.sz) (hl : OpensAt P fs.toList 0 d good) (f : β → α) (g : α → β) (hfg : ∀ a, f (g a) = a) : Opens P t (Kd.iso d f) (fun b => good (f b)) := by
  intro H enc w base spare held fuel cs x h
  obtain ⟨xs, n, _, _, hlen, hxl, hf⟩ := DataW.trod_struct ht h
  obtain ⟨a, hK, hg⟩ := hl H enc w base spare held n cs (fun fl hfl => by
    obtain ⟨i, hi, rfl⟩ := List.getElem_of_mem hfl
    have hi' : i < fs.size := by simpa using hi
    have h1 := hf i fs[i] (Array.getElem?_eq_getElem hi')
    rw [List.getElem?_eq_getElem (by omega)] at h1
    exact ⟨_, by simpa using h1⟩) (by rw [hlen, hC, Nat.zero_add])
  exact ⟨g a, by show d.K w (f (g a)) cs; rw [hfg]; simpa using hK, by show good (f (g a)); rw [hfg]; exact hg⟩
/-- A row's slice is no longer than its weight allows, whatever its elements. -/
theorem sized_row {H : Type} {enc : TypeId × Value → H} {W : World} {base : Nat} {spare : Nat → Bool} {held : Bool} {a : Option Addr} {len cap : Nat} {d : DataW H} {ps : List MemPlace} {ts : List TypeId} {ds : List (DataW H)} {j : Nat}
    (hsz : (DataW.weightsEach P ts ds).all (· ≤ reachBytes) = true) (htj : ts[j]? = some t) (hd : ds[j]? = some d) (hu : P.underlying t = some (.slice e)) {B : Nat} (hB : P.bytesOf e = B)
    (h : DataW.Trod enc P W base spare held t (.slice a len cap) d ps) : len * B ≤ 140737488351232 := by
  obtain ⟨fuel, hf⟩ := h
  rcases open_slice hu hf with ⟨hcs, _⟩ | ⟨x, l, c, m, n, D, Pl, hcs, _, hl, _, hm, hx, _⟩
  · simp [Value.cells] at hcs
    obtain ⟨rfl, rfl, rfl⟩ := hcs
    simp
  · simp [Value.cells] at hcs
    obtain ⟨rfl, rfl, rfl⟩ := hcs
    obtain ⟨hx, _⟩ := Prod.mk.inj hx
    subst hx
    have z := sized_slice hsz htj hd hu
    rw [hB] at z
    have hl2 : len ≤ ((List.range len).map D).length + ((List.range (m - len)).map fun j => D (len + j)).length := by simp
    exact Nat.le_trans (Nat.mul_le_mul_right _ hl2) z
end
end Go.Proofs.YtdggdmdefmljlaaDoorK

namespace Go.Proofs.YtdggdmdefmljlaaDoor.Q
open Go.RowKit Go.Proofs.YtdggdmdefmljlaaDoorW.PrintWords Go.Proofs.YtdggdmdefmljlaaDoorW.PrintLast Go.Proofs.YtdggdmdefmljlaaDoorW.PrintMore
attribute [local go_sem] max2_int min2_int max_two min_two max_three min_three max_four min_four   -- for this text's walks alone
attribute [local go_sem ↓] Go.Proofs.YtdggdmdefmljlaaDoorK.isSome_setCell
set_option linter.unusedVariables false
set_option linter.unusedSimpArgs false



def errW : Option Int → Value
  | none => .nilIface
  | some c => .iface 0 (.int .i64 c)
theorem errW_none : errW none = .nilIface := rfl
theorem errW_some (c : Int) : errW (some c) = .iface 0 (.int .i64 c) := rfl

theorem info9 : (Tryd.prog.info? 9).map (fun i => (i.zero, i.size, i.bytes)) = some (some (.string ⟨#[]⟩), 1, 16) := by kernel_rfl
theorem info35 : (Tryd.prog.info? 35).map (fun i => (i.zero, i.size, i.bytes)) = some (some (.agg #[(.string ⟨#[]⟩), (.int .i64 0), (.int .i64 0), (.bool false), (.bool false)]), 5, 40) := by kernel_rfl
-- the values' own types
/-! #### struct type 35 -/
structure S35 where
  f0 : ByteArray
  f1 : Int
  f2 : Int
  f3 : Bool
  f4 : Bool
def z35 : S35 := ⟨(⟨#[]⟩ : ByteArray), (0 : Int), (0 : Int), false, false⟩
def k35 : Kd S35 := Kd.iso (Kd.pair Kd.string (Kd.pair (Kd.int .i64) (Kd.pair (Kd.int .i64) (Kd.pair Kd.bool Kd.bool)))) (fun x : S35 => (x.f0, x.f1, x.f2, x.f3, x.f4))
theorem k35_open {w : World} {x : S35} {cs : List Value} (h : k35.K w x cs) : cs = [.string x.f0, .int .i64 x.f1, .int .i64 x.f2, .bool x.f3, .bool x.f4] := by
  obtain ⟨_, _, rfl, rfl, ⟨_, _, rfl, rfl, ⟨_, _, rfl, rfl, ⟨_, _, rfl, rfl, rfl⟩⟩⟩⟩ := h
  exact rfl
theorem k35_openM {w : World} {base : Nat} {ok : Nat → Prop} {x : S35} {cs : List Value} (h : k35.M w base ok x cs) : cs = [.string x.f0, .int .i64 x.f1, .int .i64 x.f2, .bool x.f3, .bool x.f4] := by
  obtain ⟨_, _, rfl, rfl, ⟨_, _, rfl, rfl, ⟨_, _, rfl, rfl, ⟨_, _, rfl, rfl, rfl⟩⟩⟩⟩ := h
  exact rfl
theorem k35_mk (w : World) (x : S35)  : k35.K w x [.string x.f0, .int .i64 x.f1, .int .i64 x.f2, .bool x.f3, .bool x.f4] := ⟨[.string x.f0], [.int .i64 x.f1, .int .i64 x.f2, .bool x.f3, .bool x.f4], rfl, rfl, ⟨[.int .i64 x.f1], [.int .i64 x.f2, .bool x.f3, .bool x.f4], rfl, rfl, ⟨[.int .i64 x.f2], [.bool x.f3, .bool x.f4], rfl, rfl, ⟨[.bool x.f3], [.bool x.f4], rfl, rfl, rfl⟩⟩⟩⟩
theorem k35_mkM (w : World) (base : Nat) (ok : Nat → Prop) (x : S35)  : k35.M w base ok x [.string x.f0, .int .i64 x.f1, .int .i64 x.f2, .bool x.f3, .bool x.f4] := ⟨[.string x.f0], [.int .i64 x.f1, .int .i64 x.f2, .bool x.f3, .bool x.f4], rfl, rfl, ⟨[.int .i64 x.f1], [.int .i64 x.f2, .bool x.f3, .bool x.f4], rfl, rfl, ⟨[.int .i64 x.f2], [.bool x.f3, .bool x.f4], rfl, rfl, ⟨[.bool x.f3], [.bool x.f4], rfl, rfl, rfl⟩⟩⟩⟩
def rd_T35 (xs : List S35) (i : Int) : S35 := xs.getD i.toNat z35
theorem at_T35 {w : World} {A : Option Addr} {n : Nat} {xs : List S35} (h : Kd.C k35 w A n xs) (i : Int) (h0 : 0 ≤ i) (h1 : i < n) : ∃ ad , A = some ad ∧ w.cell? (ad.add (i.toNat * 5)) = some (.string (rd_T35 xs i).f0) ∧ w.cell? ⟨(ad.add (i.toNat * 5)).block, (ad.add (i.toNat * 5)).off + 1, none⟩ = some (.int .i64 (rd_T35 xs i).f1) ∧ w.cell? ⟨(ad.add (i.toNat * 5)).block, (ad.add (i.toNat * 5)).off + 2, none⟩ = some (.int .i64 (rd_T35 xs i).f2) ∧ w.cell? ⟨(ad.add (i.toNat * 5)).block, (ad.add (i.toNat * 5)).off + 3, none⟩ = some (.bool (rd_T35 xs i).f3) ∧ w.cell? ⟨(ad.add (i.toNat * 5)).block, (ad.add (i.toNat * 5)).off + 4, none⟩ = some (.bool (rd_T35 xs i).f4) := by
  obtain ⟨ad, c, e, _, hK, hc0⟩ := Kd.C_get h z35 i h0 h1
  have hc : ∀ j u, c[j]? = some u → w.cell? (ad.add (i.toNat * 5 + j)) = some u := hc0
  obtain rfl := k35_open hK
  exact ⟨ad, e, hc 0 _ rfl, by rw [← add_field _ _ 1 (by omega)]; exact hc 1 _ rfl, by rw [← add_field _ _ 2 (by omega)]; exact hc 2 _ rfl, by rw [← add_field _ _ 3 (by omega)]; exact hc 3 _ rfl, by rw [← add_field _ _ 4 (by omega)]; exact hc 4 _ rfl⟩

def rd_L4 (xs : List (List S35)) (i : Int) : (List S35) := xs.getD i.toNat ([] : List S35)
theorem at_L4 {w : World} {A : Option Addr} {n : Nat} {xs : List (List S35)} (h : Kd.C (Kd.slice 35 k35) w A n xs) (i : Int) (h0 : 0 ≤ i) (h1 : i < n) : ∃ ad A0 c0, A = some ad ∧ w.cell? (ad.add i.toNat) = some (.slice A0 (rd_L4 xs i).length c0) ∧ (rd_L4 xs i).length ≤ c0 ∧ k35.C w A0 (rd_L4 xs i).length (rd_L4 xs i) := by
  obtain ⟨ad, c, e, _, hK, hc0⟩ := Kd.C_get h ([] : List S35) i h0 h1
  have hc : ∀ j u, c[j]? = some u → w.cell? (ad.add (i.toNat * 1 + j)) = some u := hc0
  obtain ⟨A0, c0, rfl, l0, g0⟩ := hK
  exact ⟨ad, A0, c0, e, by have hq := hc 0 _ rfl; rwa [Nat.mul_one, Nat.add_zero] at hq, l0, g0⟩

def rd_L5 (xs : List (List ByteArray)) (i : Int) : (List ByteArray) := xs.getD i.toNat ([] : List ByteArray)
theorem at_L5 {w : World} {A : Option Addr} {n : Nat} {xs : List (List ByteArray)} (h : Kd.C (Kd.slice 9 Kd.string) w A n xs) (i : Int) (h0 : 0 ≤ i) (h1 : i < n) : ∃ ad A0 c0, A = some ad ∧ w.cell? (ad.add i.toNat) = some (.slice A0 (rd_L5 xs i).length c0) ∧ (rd_L5 xs i).length ≤ c0 ∧ Kd.string.C w A0 (rd_L5 xs i).length (rd_L5 xs i) := by
  obtain ⟨ad, c, e, _, hK, hc0⟩ := Kd.C_get h ([] : List ByteArray) i h0 h1
  have hc : ∀ j u, c[j]? = some u → w.cell? (ad.add (i.toNat * 1 + j)) = some u := hc0
  obtain ⟨A0, c0, rfl, l0, g0⟩ := hK
  exact ⟨ad, A0, c0, e, by have hq := hc 0 _ rfl; rwa [Nat.mul_one, Nat.add_zero] at hq, l0, g0⟩

end Go.Proofs.YtdggdmdefmljlaaDoor.Q

namespace Go.Proofs.YtdggdmdefmljlaaDoor.Q
open Go Go.RowKit Go.Proofs.YtdggdmdefmljlaaDoorK Go.Proofs.YtdggdmdefmljlaaDoorW.PrintWords Go.Proofs.YtdggdmdefmljlaaDoorW.PrintLast Go.Proofs.YtdggdmdefmljlaaDoorW.PrintMore
def good35 (x : S35) : Prop := x.f0.size ≤ 9223372036854775807 ∧ (Lit.int .i64 x.f1).wf = true ∧ (Lit.int .i64 x.f2).wf = true ∧ True ∧ True
theorem opens35 : Opens Tryd.prog 35 k35 good35 := opens_struct Tryd.underlying35 (by kernel_rfl) (opensAt_cons rfl (by kernel_rfl) (opens_string Tryd.underlying9) (opensAt_cons rfl (by kernel_rfl) (opens_int Tryd.underlying3) (opensAt_cons rfl (by kernel_rfl) (opens_int Tryd.underlying3) (opensAt_cons rfl (by kernel_rfl) (opens_bool Tryd.underlying4) (opensAt_last rfl (by kernel_rfl) (opens_bool Tryd.underlying4)))))) (fun x : S35 => (x.f0, x.f1, x.f2, x.f3, x.f4)) (fun p => ⟨p.1, p.2.1, p.2.2.1, p.2.2.2.1, p.2.2.2.2⟩) (fun _ => rfl)
end Go.Proofs.YtdggdmdefmljlaaDoor.Q

namespace Go.Proofs.YtdggdmdefmljlaaDoorK
open Go Go.RowKit Go.ChangeShapes Go.WideShapes Go.Deep Go.Proofs.YtdggdmdefmljlaaDoorW.PrintWords
/-! Arrays of two ints, whole. -/
def kTwo : Kd (Int × Int) where
  sz := 2
  E := []
  K := fun _ x cs => cs = [.int .i64 x.1, .int .i64 x.2]
  M := fun _ _ _ x cs => cs = [.int .i64 x.1, .int .i64 x.2]
  K_len := fun h => by rw [h]; rfl
  K_one := fun h u hu => by
    rw [h] at hu
    simp only [List.mem_cons, List.mem_nil_iff, or_false] at hu
    rcases hu with rfl | rfl <;> rfl
  K_below := fun _ h => h
  K_of_M := fun h => h
  M_mono := fun _ h => h
  M_bound := fun h => h
  M_move := fun _ h => h
  M_lower := fun _ h => h
section
variable {P : Program} {t e : TypeId}
theorem opens_two (ht : P.underlying t = some (.array 2 e)) (he : P.underlying e = some (.int .i64)) (hc : P.cellsOf e = 1) (hs : P.cellsOf t = 2) : Opens P t kTwo (fun x => (Lit.int .i64 x.1).wf = true ∧ (Lit.int .i64 x.2).wf = true) := by
  intro H enc w base spare held fuel cs x h
  obtain ⟨xs, m, _, _, hl, hxl, hx⟩ := DataW.trod_array ht h
  rw [hs] at hl
  rw [hc] at hx
  have key : ∀ i, i < 2 → ∃ n : Int, cs[i]? = some (.int .i64 n) ∧ (Lit.int .i64 n).wf = true := by
    intro i hi
    have h1 := hx i hi
    rw [Nat.mul_one, List.getElem?_eq_getElem (by omega)] at h1
    obtain ⟨n, hn, _, hw⟩ := DataW.trod_int he h1
    have hlt : i < cs.length := by omega
    have h2 : (cs.drop i).take 1 = [cs[i]] := by rw [List.drop_eq_getElem_cons hlt]; rfl
    rw [h2] at hn
    injection hn with hn _
    exact ⟨n, by rw [List.getElem?_eq_getElem hlt, hn], hw⟩
  obtain ⟨a, ha, wa⟩ := key 0 (by omega)
  obtain ⟨b, hb, wb⟩ := key 1 (by omega)
  refine ⟨(a, b), ?_, wa, wb⟩
  show cs = [.int .i64 a, .int .i64 b]
  apply List.ext_getElem?
  intro i
  match i with
  | 0 => exact ha
  | 1 => exact hb
  | i + 2 => rw [List.getElem?_eq_none (by omega), List.getElem?_eq_none (by simp)]
end
theorem okWide_array {P : Program} {w : World} {base : Nat} {t e : TypeId} {n : Nat} {v : Value} (ht : P.underlying t = some (.array n e)) (h : Value.okWide P w .any base t v) : ∃ cs, v = .agg cs := by
  simp only [Value.okWide, ht] at h
  obtain ⟨cs, h1, _⟩ := h
  exact ⟨cs, h1⟩
end Go.Proofs.YtdggdmdefmljlaaDoorK

namespace Go.Proofs.YtdggdmdefmljlaaDoorP
open Go Go.Lib
/-! What a path is, parted at each /, and how two are compared. Plain: no program here. -/
/-- A text, parted at each byte 47. -/
def names : List UInt8 → List (List UInt8)
  | [] => [[]]
  | c :: l => if c = 47 then [] :: names l else match names l with
    | [] => [[c]]
    | n :: ns => (c :: n) :: ns
theorem names_ne (l : List UInt8) : names l ≠ [] := by
  cases l with
  | nil => simp [names]
  | cons c l =>
    unfold names
    split
    · simp
    · split <;> simp
theorem index_cons_eq (l : List UInt8) (c : UInt8) : index (c :: l) [c] = 0 := by
  unfold index
  simp [List.isPrefixOf]
theorem index_cons_ne (l : List UInt8) (b c : UInt8) (h : b ≠ c) : index (b :: l) [c] = if index l [c] == -1 then -1 else index l [c] + 1 := by
  rw [index]
  have h2 : ([c] : List UInt8).isPrefixOf (b :: l) = false := by simp [List.isPrefixOf, Ne.symm h]
  rw [h2]
  rfl
theorem index_ge (l : List UInt8) (c : UInt8) : -1 ≤ index l [c] := by
  induction l with
  | nil => simp [index]
  | cons b l ih =>
    by_cases h : b = c
    · subst h; rw [index_cons_eq]; omega
    · rw [index_cons_ne l b c h]
      split <;> omega
theorem index_none (l : List UInt8) (c : UInt8) : index l [c] = -1 ↔ count l [c] = 0 := by
  induction l with
  | nil => simp [index, count, countFrom]
  | cons b l ih =>
    have hg := index_ge l c
    by_cases h : b = c
    · subst h
      rw [index_cons_eq, count_cons_eq]
      omega
    · rw [index_cons_ne l b c h, count_cons_ne b c l h, ← ih]
      by_cases h2 : index l [c] = -1
      · simp [h2]
      · rw [if_neg (by simpa using h2)]
        omega
theorem split_names (l : List UInt8) : splitK [47] 0 (count l [47]) l = names l := by
  induction l with
  | nil => rfl
  | cons b l ih =>
    by_cases h : b = 47
    · subst h
      rw [count_cons_eq, Nat.add_comm, splitK, index_cons_eq, if_neg (by decide)]
      simp only [names, if_pos]
      simpa using ih
    · rw [count_cons_ne b 47 l h]
      simp only [names, if_neg h]
      rw [← ih]
      cases hk : count l [47] with
      | zero => simp [splitK]
      | succ k =>
        have hi : index l [47] ≠ -1 := fun e => by have := (index_none l 47).1 e; omega
        have hg := index_ge l 47
        obtain ⟨i, hii⟩ : ∃ i : Nat, index l [47] = (i : Int) := ⟨(index l [47]).toNat, by omega⟩
        rw [splitK, splitK, index_cons_ne l b 47 h, hii]
        have e1 : ¬ ((i : Int) == -1) = true := by simp <;> omega
        have e2 : ¬ ((i : Int) + 1 == -1) = true := by simp <;> omega
        rw [if_neg e1, if_neg e2, if_neg e1]
        have e3 : ((i : Int) + 1).toNat = i + 1 := by omega
        have e4 : (i : Int).toNat = i := by omega
        rw [e3, e4]
        simp
/-- names, put together again. -/
def joinN : List (List UInt8) → List UInt8
  | [] => []
  | [n] => n
  | n :: m :: ns => n ++ 47 :: joinN (m :: ns)
theorem joinN_cons (c : UInt8) (n : List UInt8) (ns : List (List UInt8)) : joinN ((c :: n) :: ns) = c :: joinN (n :: ns) := by
  cases ns <;> simp [joinN]
theorem joinN_names (l : List UInt8) : joinN (names l) = l := by
  induction l with
  | nil => rfl
  | cons c l ih =>
    have hne := names_ne l
    unfold names
    by_cases h : c = 47
    · rw [if_pos h]
      cases hn : names l with
      | nil => exact absurd hn hne
      | cons m ms => rw [joinN, ← hn, ih, h]; rfl
    · rw [if_neg h]
      cases hn : names l with
      | nil => exact absurd hn hne
      | cons m ms =>
        simp only
        rw [joinN_cons, ← hn, ih]
theorem names_inj {a b : List UInt8} (h : names a = names b) : a = b := by rw [← joinN_names a, ← joinN_names b, h]
/-! ### Comparing -/
/-- A comparison that parts whatever two are not one. -/
structure Good {α : Type} (f : α → α → Int) : Prop where
  refl : ∀ x, f x x = 0
  eq : ∀ x y, f x y = 0 → x = y
  lt : ∀ x y, f x y < 0 ↔ 0 < f y x
  trans : ∀ x y z, f x y < 0 → f y z < 0 → f x z < 0
/-- One list against another one, element by element. -/
def lexC {α : Type} (f : α → α → Int) : List α → List α → Int
  | [], [] => 0
  | [], _ :: _ => -1
  | _ :: _, [] => 1
  | a :: l, b :: m => if f a b = 0 then lexC f l m else f a b
theorem good_lex {α : Type} {f : α → α → Int} (g : Good f) : Good (lexC f) := by
  have hlt : ∀ x y : List α, lexC f x y < 0 ↔ 0 < lexC f y x := by
    intro x
    induction x with
    | nil =>
      intro y
      cases y <;> simp [lexC]
    | cons a la ih =>
      intro y
      cases y with
      | nil => simp [lexC]
      | cons b bs =>
        have h1 := g.lt a b
        have h2 := g.lt b a
        simp only [lexC]
        by_cases h : f a b = 0
        · have h' : f b a = 0 := by omega
          rw [if_pos h, if_pos h']
          exact ih bs
        · have h' : ¬ f b a = 0 := by omega
          rw [if_neg h, if_neg h']
          exact h1
  refine ⟨?_, ?_, hlt, ?_⟩
  · intro x
    induction x with
    | nil => rfl
    | cons a la ih => simp only [lexC]; rw [if_pos (g.refl a)]; exact ih
  · intro x
    induction x with
    | nil =>
      intro y h
      cases y with
      | nil => rfl
      | cons b bs => simp [lexC] at h
    | cons a la ih =>
      intro y h
      cases y with
      | nil => simp [lexC] at h
      | cons b bs =>
        simp only [lexC] at h
        by_cases h1 : f a b = 0
        · rw [if_pos h1] at h
          rw [g.eq a b h1, ih bs h]
        · rw [if_neg h1] at h
          exact absurd h h1
  · intro x
    induction x with
    | nil =>
      intro y z h1 h2
      cases z with
      | nil =>
        cases y with
        | nil => exact h1
        | cons b bs => simp [lexC] at h2
      | cons c cs => simp [lexC]
    | cons a la ih =>
      intro y z h1 h2
      cases y with
      | nil => simp [lexC] at h1
      | cons b bs =>
        cases z with
        | nil => simp [lexC] at h2
        | cons c cs =>
          simp only [lexC] at h1 h2 ⊢
          by_cases e1 : f a b = 0
          · have ea := g.eq a b e1
            subst ea
            rw [if_pos e1] at h1
            by_cases e2 : f a c = 0
            · rw [if_pos e2] at h2 ⊢
              exact ih bs cs h1 h2
            · rw [if_neg e2] at h2 ⊢
              exact h2
          · rw [if_neg e1] at h1
            by_cases e2 : f b c = 0
            · have eb := g.eq b c e2
              subst eb
              rw [if_neg e1]
              exact h1
            · rw [if_neg e2] at h2
              have h3 := g.trans a b c h1 h2
              rw [if_neg (by omega)]
              exact h3
def cmpU (a b : UInt8) : Int := if a < b then -1 else if b < a then 1 else 0
theorem cmpU_nat (a b : UInt8) : cmpU a b = if a.toNat < b.toNat then -1 else if b.toNat < a.toNat then 1 else 0 := by
  have hl : ∀ a b : UInt8, a < b ↔ a.toNat < b.toNat := fun a b => UInt8.lt_iff_toNat_lt
  unfold cmpU
  simp only [hl]
theorem good_u : Good cmpU := by
  refine ⟨?_, ?_, ?_, ?_⟩
  · intro x
    simp [cmpU]
  · intro x y h
    rw [cmpU_nat] at h
    apply UInt8.toNat.inj
    split at h
    · omega
    · split at h <;> omega
  · intro x y
    rw [cmpU_nat, cmpU_nat]
    split <;> split <;> (try split) <;> omega
  · intro x y z
    rw [cmpU_nat, cmpU_nat, cmpU_nat]
    split <;> split <;> (try split) <;> (try split) <;> (try split) <;> omega
theorem compare_lex : ∀ a b : List UInt8, compareBytes a b = lexC cmpU a b
  | [], [] => rfl
  | [], _ :: _ => rfl
  | _ :: _, [] => rfl
  | a :: la, b :: bs => by
    simp only [compareBytes, lexC, cmpU]
    rw [compare_lex la bs]
    by_cases h1 : a < b
    · simp [h1]
    · by_cases h2 : b < a
      · simp [h1, h2]
      · simp [h1, h2]
theorem good_bytes : Good compareBytes := by
  have h : compareBytes = lexC cmpU := by funext a b; exact compare_lex a b
  rw [h]
  exact good_lex good_u
/-- path.Compare: name by name, then by their number. -/
def cmpN : List (List UInt8) → List (List UInt8) → Int := lexC compareBytes
theorem good_names : Good cmpN := good_lex good_bytes
def pcmp (a b : ByteArray) : Int := cmpN (names a.data.toList) (names b.data.toList)
theorem good_path : Good pcmp where
  refl x := good_names.refl _
  eq x y h := by
    have h1 := names_inj (good_names.eq _ _ h)
    exact ByteArray.ext (Array.ext' h1)
  lt x y := good_names.lt _ _
  trans x y z := good_names.trans _ _ _
/-! ### Two sorted lists of the same -/
theorem perm_sorted {α : Type} (le : α → α → Prop) (anti : ∀ a b, le a b → le b a → a = b) : ∀ l m : List α, l.Perm m → l.Pairwise le → m.Pairwise le → (∀ a ∈ l, le a a) → l = m := by
  intro l
  induction l with
  | nil => intro m h _ _ _; exact h.nil_eq
  | cons a l ih =>
    intro m h hl hm hr
    cases m with
    | nil => exact absurd h.symm.nil_eq (by simp)
    | cons b m =>
      have hl' := List.pairwise_cons.1 hl
      have hm' := List.pairwise_cons.1 hm
      have hab : a = b := by
        have h1 : b ∈ a :: l := h.mem_iff.2 (by simp)
        have h2 : a ∈ b :: m := h.mem_iff.1 (by simp)
        rcases List.mem_cons.1 h1 with e | e
        · exact e.symm
        · rcases List.mem_cons.1 h2 with e2 | e2
          · exact e2
          · exact anti a b (hl'.1 b e) (hm'.1 a e2)
      subst hab
      rw [ih m (List.Perm.cons_inv h) hl'.2 hm'.2 (fun x hx => hr x (by simp [hx]))]
end Go.Proofs.YtdggdmdefmljlaaDoorP

namespace Go.Proofs.YtdggdmdefmljlaaDoorP
open Go Go.Proofs Go.Shelf Go.RowKit Go.Lib
variable {P : Program} {ρ : Ren}
/-! strings.Split at a sep of one byte: no package variable is asked. -/
set_option maxHeartbeats 1000000 in
theorem split_one (L : Lays.n146 P ρ) (hi9 : (P.info? (ρ.t 9)).map (fun i => (i.zero, i.size, i.bytes)) = some (some (.string ByteArray.empty), 1, 16)) (s : ByteArray) (b : UInt8) (w : World) (hs : s.size < 4294967281) :
    Calls P (ρ.f 146) #[.string s, .string ⟨#[b]⟩] w fun e w' =>
      e = .returned (.slice (some ⟨w.heap.size, 0, none⟩) (Lib.countB s ⟨#[b]⟩ + 1) (Lib.countB s ⟨#[b]⟩ + 1)) ∧ w' = w.alloc (.cells ((Lib.splitB ⟨#[b]⟩ 0 (Lib.countB s ⟨#[b]⟩) s).map Value.string).toArray (ρ.t 9)) := by
  have h1 : 1 ≤ (⟨#[b]⟩ : ByteArray).size := Nat.le_refl 1
  have hle := Lib.countB_le ⟨#[b]⟩ h1 s.size s (Nat.le_refl _)
  have hlen := Lib.splitB_all ⟨#[b]⟩ h1 0 _ s rfl
  have hcnt : Calls P (ρ.f 138) #[.string s, .string ⟨#[b]⟩] w fun e w' => e = .returned (.int .i64 (Lib.countB s ⟨#[b]⟩)) ∧ w' = w := by
    refine (Any.strings_Count_one { L with } s b w).mono fun e w' ⟨he, hw⟩ => ⟨?_, hw⟩
    rw [he]
    show _ = Ending.returned (Value.int .i64 ((Lib.count s.data.toList [b] : Nat) : Int))
    rw [Lib.count_one]
    rfl
  have c := Any.strings_genSplit_core { L with } hi9 s ⟨#[b]⟩ 0 (-1) (Lib.countB s ⟨#[b]⟩ + 1) w hs h1 (Nat.zero_le _)
    (fun x c _ => (Any.strings_Index_one { L with } x b _).mono (fun e w' h => ⟨by rw [h.1]; show _ = Ending.returned (Value.int .i64 (Lib.index x.data.toList [b])); rw [Lib.index_one], h.2⟩)) hcnt (by decide) (by decide) (by rw [if_pos (by decide)]; omega)
  rw [Nat.add_sub_cancel, hlen] at c
  have e2 : Lib.cellsOf (Lib.splitB ⟨#[b]⟩ 0 (Lib.countB s ⟨#[b]⟩) s) (Lib.countB s ⟨#[b]⟩ + 1) = ((Lib.splitB ⟨#[b]⟩ 0 (Lib.countB s ⟨#[b]⟩) s).map Value.string).toArray := by rw [← hlen]; exact Lib.cellsOf_full _
  rw [e2] at c
  have t3 := L.t3; have t9 := L.t9; have t31 := L.t31
  have a3 := L.a3; have a9 := L.a9; have a31 := L.a31
  have z3 := L.z3; have v3 := L.v3; have z9 := L.z9; have v9 := L.v9; have z31 := L.z31; have v31 := L.v31
  have e221 : ∀ args w, (callFunc (ρ.f 221) args).run P w = .ok (.enter (ρ.f 221) args) w := enters_of L.f221 (by kernel_rfl) rfl
  go_enter L.f146, Body.n146_ntmps ρ
  go_wp2_with (go_at_fn (ρ.f 221); refine c.mono ?_; rintro e w' ⟨rfl, hw⟩; rw [hw])
  go_ret
  exact ⟨rfl, rfl⟩
end Go.Proofs.YtdggdmdefmljlaaDoorP

namespace Go.Proofs.YtdggdmdefmljlaaDoor.Q
open Go Go.Proofs Go.Shelf
/-! The library's functions as they lie in this program: what the shelf's laying commands write, in plain words (tools/plainlay.py). -/
def laySplit_ren : Go.Shelf.Ren := ⟨fun | 146 => 33 | 221 => 39 | 268 => 52 | 138 => 53 | 143 => 54 | 195 => 61 | 197 => 62 | 218 => 63 | 219 => 64 | 260 => 66 | 217 => 67 | 225 => 68 | 224 => 69 | 267 => 70 | 266 => 71 | 314 => 72 | n => n, fun | 9 => 9 | 31 => 30 | 3 => 3 | 4 => 4 | 0 => 0 | 105 => 78 | 21 => 21 | 5 => 5 | 46 => 55 | 119 => 85 | 139 => 88 | 138 => 87 | 146 => 89 | 51 => 66 | n => n, fun | 1 => 0 | 3 => 1 | 4 => 2 | n => n⟩
set_option maxRecDepth 100000 in
theorem laySplit : Go.Proofs.Lays.n146 Tryd.prog laySplit_ren := {
  mixed := by kernel_rfl,
  f138 := Tryd.func53.trans (congrArg some (by kernel_rfl)),
  f143 := Tryd.func54.trans (congrArg some (by kernel_rfl)),
  f146 := Tryd.func33.trans (congrArg some (by kernel_rfl)),
  f195 := Tryd.func61.trans (congrArg some (by kernel_rfl)),
  f197 := Tryd.func62.trans (congrArg some (by kernel_rfl)),
  f217 := Tryd.func67.trans (congrArg some (by kernel_rfl)),
  f218 := Tryd.func63.trans (congrArg some (by kernel_rfl)),
  f219 := Tryd.func64.trans (congrArg some (by kernel_rfl)),
  f221 := Tryd.func39.trans (congrArg some (by kernel_rfl)),
  f224 := Tryd.func69.trans (congrArg some (by kernel_rfl)),
  f225 := Tryd.func68.trans (congrArg some (by kernel_rfl)),
  f260 := Tryd.func66.trans (congrArg some (by kernel_rfl)),
  f266 := Tryd.func71.trans (congrArg some (by kernel_rfl)),
  f267 := Tryd.func70.trans (congrArg some (by kernel_rfl)),
  f268 := Tryd.func52.trans (congrArg some (by kernel_rfl)),
  f314 := Tryd.func72.trans (congrArg some (by kernel_rfl)),
  t0 := Tryd.underlying0,
  a0 := Tryd.isAgg0,
  z0 := Tryd.sizeOf0,
  v0 := Tryd.zeroValue0,
  t3 := Tryd.underlying3,
  a3 := Tryd.isAgg3,
  z3 := Tryd.sizeOf3,
  v3 := Tryd.zeroValue3,
  t4 := Tryd.underlying4,
  a4 := Tryd.isAgg4,
  z4 := Tryd.sizeOf4,
  v4 := Tryd.zeroValue4,
  t5 := Tryd.underlying5,
  a5 := Tryd.isAgg5,
  z5 := Tryd.sizeOf5,
  v5 := Tryd.zeroValue5,
  t9 := Tryd.underlying9,
  a9 := Tryd.isAgg9,
  z9 := Tryd.sizeOf9,
  v9 := Tryd.zeroValue9,
  t21 := Tryd.underlying21,
  a21 := Tryd.isAgg21,
  z21 := Tryd.sizeOf21,
  v21 := Tryd.zeroValue21,
  t31 := Tryd.underlying30,
  a31 := Tryd.isAgg30,
  z31 := Tryd.sizeOf30,
  v31 := Tryd.zeroValue30,
  t46 := Tryd.underlying55,
  a46 := Tryd.isAgg55,
  z46 := Tryd.sizeOf55,
  v46 := Tryd.zeroValue55,
  t51 := Tryd.underlying66,
  a51 := Tryd.isAgg66,
  z51 := Tryd.sizeOf66,
  v51 := Tryd.zeroValue66,
  t105 := Tryd.underlying78,
  a105 := Tryd.isAgg78,
  z105 := Tryd.sizeOf78,
  v105 := Tryd.zeroValue78,
  t119 := Tryd.underlying85,
  a119 := Tryd.isAgg85,
  z119 := Tryd.sizeOf85,
  t138 := Tryd.underlying87,
  a138 := Tryd.isAgg87,
  z138 := Tryd.sizeOf87,
  v138 := Tryd.zeroValue87,
  t139 := Tryd.underlying88,
  a139 := Tryd.isAgg88,
  z139 := Tryd.sizeOf88,
  v139 := Tryd.zeroValue88,
  t146 := Tryd.underlying89,
  a146 := Tryd.isAgg89,
  z146 := Tryd.sizeOf89,
  v146 := Tryd.zeroValue89,
  g1 := by kernel_rfl,
  g3 := by kernel_rfl,
  g4 := by kernel_rfl }
def layStrCmp_ren : Go.Shelf.Ren := ⟨fun | 106 => 34 | 213 => 40 | 265 => 55 | n => n, fun | 9 => 9 | 3 => 3 | n => n, fun | n => n⟩
set_option maxRecDepth 100000 in
theorem layStrCmp : Go.Proofs.Lays.n106 Tryd.prog layStrCmp_ren := {
  mixed := by kernel_rfl,
  f106 := Tryd.func34.trans (congrArg some (by kernel_rfl)),
  f213 := Tryd.func40.trans (congrArg some (by kernel_rfl)),
  f265 := Tryd.func55.trans (congrArg some (by kernel_rfl)),
  t3 := Tryd.underlying3,
  a3 := Tryd.isAgg3,
  z3 := Tryd.sizeOf3,
  v3 := Tryd.zeroValue3,
  t9 := Tryd.underlying9,
  a9 := Tryd.isAgg9,
  z9 := Tryd.sizeOf9,
  v9 := Tryd.zeroValue9 }
def layIntCmp_ren : Go.Shelf.Ren := ⟨fun | 5 => 30 | 7 => 37 | n => n, fun | 22 => 3 | 3 => 3 | 4 => 4 | n => n, fun | n => n⟩
set_option maxRecDepth 100000 in
theorem layIntCmp : Go.Proofs.SlLaysC2.n5 Tryd.prog layIntCmp_ren := {
  mixed := by kernel_rfl,
  f5 := ⟨Tryd.f30.name, by decide, Tryd.func30.trans (congrArg some (by kernel_rfl))⟩,
  f7 := ⟨Tryd.f37.name, by decide, Tryd.func37.trans (congrArg some (by kernel_rfl))⟩,
  t3 := Tryd.underlying3,
  a3 := Tryd.isAgg3,
  z3 := Tryd.sizeOf3,
  v3 := Tryd.zeroValue3,
  t4 := Tryd.underlying4,
  a4 := Tryd.isAgg4,
  z4 := Tryd.sizeOf4,
  v4 := Tryd.zeroValue4,
  t22 := Tryd.underlying3,
  a22 := Tryd.isAgg3,
  z22 := Tryd.sizeOf3,
  v22 := Tryd.zeroValue3 }
def laySort_ren : Go.Shelf.Ren := ⟨fun | 6 => 28 | 15 => 36 | 14 => 35 | 28 => 49 | 29 => 50 | 20 => 41 | 21 => 42 | 22 => 43 | 23 => 44 | 24 => 45 | 25 => 46 | 26 => 47 | 27 => 48 | 46 => 56 | 47 => 57 | 48 => 58 | 49 => 59 | 50 => 60 | 57 => 65 | n => n, fun | 22 => 22 | 24 => 35 | 25 => 49 | 3 => 3 | 39 => 55 | 0 => 0 | 53 => 66 | 55 => 68 | 4 => 4 | 46 => 59 | 45 => 58 | 50 => 63 | 5 => 5 | 9 => 9 | 66 => 71 | 70 => 75 | 76 => 81 | 77 => 82 | n => n, fun | n => n⟩
set_option maxRecDepth 100000 in
theorem laySort : Go.Proofs.SlLaysF0.n6 Tryd.prog laySort_ren := {
  mixed := by kernel_rfl,
  f6 := ⟨Tryd.f28.name, by decide, Tryd.func28.trans (congrArg some (by kernel_rfl))⟩,
  f14 := ⟨Tryd.f35.name, by decide, Tryd.func35.trans (congrArg some (by kernel_rfl))⟩,
  f15 := Tryd.func36.trans (congrArg some (by kernel_rfl)),
  f20 := ⟨Tryd.f41.name, by decide, Tryd.func41.trans (congrArg some (by kernel_rfl))⟩,
  f21 := ⟨Tryd.f42.name, by decide, Tryd.func42.trans (congrArg some (by kernel_rfl))⟩,
  f22 := ⟨Tryd.f43.name, by decide, Tryd.func43.trans (congrArg some (by kernel_rfl))⟩,
  f23 := ⟨Tryd.f44.name, by decide, Tryd.func44.trans (congrArg some (by kernel_rfl))⟩,
  f24 := ⟨Tryd.f45.name, by decide, Tryd.func45.trans (congrArg some (by kernel_rfl))⟩,
  f25 := ⟨Tryd.f46.name, by decide, Tryd.func46.trans (congrArg some (by kernel_rfl))⟩,
  f26 := ⟨Tryd.f47.name, by decide, Tryd.func47.trans (congrArg some (by kernel_rfl))⟩,
  f27 := ⟨Tryd.f48.name, by decide, Tryd.func48.trans (congrArg some (by kernel_rfl))⟩,
  f28 := Tryd.func49.trans (congrArg some (by kernel_rfl)),
  f29 := Tryd.func50.trans (congrArg some (by kernel_rfl)),
  f46 := ⟨Tryd.f56.name, by decide, Tryd.func56.trans (congrArg some (by kernel_rfl))⟩,
  f47 := Tryd.func57.trans (congrArg some (by kernel_rfl)),
  f48 := Tryd.func58.trans (congrArg some (by kernel_rfl)),
  f49 := ⟨Tryd.f59.name, by decide, Tryd.func59.trans (congrArg some (by kernel_rfl))⟩,
  f50 := ⟨Tryd.f60.name, by decide, Tryd.func60.trans (congrArg some (by kernel_rfl))⟩,
  f57 := ⟨Tryd.f65.name, by decide, Tryd.func65.trans (congrArg some (by kernel_rfl))⟩,
  t0 := Tryd.underlying0,
  a0 := Tryd.isAgg0,
  z0 := Tryd.sizeOf0,
  v0 := Tryd.zeroValue0,
  t3 := Tryd.underlying3,
  a3 := Tryd.isAgg3,
  z3 := Tryd.sizeOf3,
  v3 := Tryd.zeroValue3,
  t4 := Tryd.underlying4,
  a4 := Tryd.isAgg4,
  z4 := Tryd.sizeOf4,
  v4 := Tryd.zeroValue4,
  t5 := Tryd.underlying5,
  a5 := Tryd.isAgg5,
  z5 := Tryd.sizeOf5,
  v5 := Tryd.zeroValue5,
  t9 := Tryd.underlying9,
  a9 := Tryd.isAgg9,
  z9 := Tryd.sizeOf9,
  v9 := Tryd.zeroValue9,
  t22 := Tryd.underlying22,
  a22 := Tryd.isAgg22,
  z22 := Tryd.sizeOf22,
  v22 := Tryd.zeroValue22,
  t25 := Tryd.underlying49,
  a25 := Tryd.isAgg49,
  z25 := Tryd.sizeOf49,
  v25 := Tryd.zeroValue49,
  t39 := Tryd.underlying55,
  a39 := Tryd.isAgg55,
  z39 := Tryd.sizeOf55,
  v39 := Tryd.zeroValue55,
  t45 := Tryd.underlying58,
  a45 := Tryd.isAgg58,
  z45 := Tryd.sizeOf58,
  v45 := Tryd.zeroValue58,
  t46 := Tryd.underlying59,
  a46 := Tryd.isAgg59,
  z46 := Tryd.sizeOf59,
  v46 := Tryd.zeroValue59,
  t50 := Tryd.underlying63,
  a50 := Tryd.isAgg63,
  z50 := Tryd.sizeOf63,
  v50 := Tryd.zeroValue63,
  t53 := Tryd.underlying66,
  a53 := Tryd.isAgg66,
  z53 := Tryd.sizeOf66,
  v53 := Tryd.zeroValue66,
  t55 := Tryd.underlying68,
  a55 := Tryd.isAgg68,
  z55 := Tryd.sizeOf68,
  v55 := Tryd.zeroValue68,
  t66 := Tryd.underlying71,
  a66 := Tryd.isAgg71,
  z66 := Tryd.sizeOf71,
  v66 := Tryd.zeroValue71,
  t70 := Tryd.underlying75,
  a70 := Tryd.isAgg75,
  z70 := Tryd.sizeOf75,
  v70 := Tryd.zeroValue75,
  t76 := Tryd.underlying81,
  a76 := Tryd.isAgg81,
  z76 := Tryd.sizeOf81,
  v76 := Tryd.zeroValue81,
  t77 := Tryd.underlying82,
  a77 := Tryd.isAgg82,
  z77 := Tryd.sizeOf82,
  v77 := Tryd.zeroValue82 }
end Go.Proofs.YtdggdmdefmljlaaDoor.Q

namespace Go.Proofs.YtdggdmdefmljlaaDoorK
open Go Go.RowKit Go.Proofs.YtdggdmdefmljlaaDoorW.PrintWords
/-! A whole box (a struct's, an array's) is read, or written, at once. -/
theorem grown_setRow (w : World) (g : Nat) (cs : Array Value) : w.grownBy (w.setRow g cs) (some g) := by
  constructor
  all_goals first | rfl | (simp; done) | skip
  all_goals intro k hk hne
  all_goals exact setRow_other w g k cs (by intro e; exact hne (by rw [e]))
theorem below_box {w W W1 : World} {g : Nat} (h : Below w.heap.size w W) (hg : W.grownBy W1 (some g)) (hb : w.heap.size ≤ g) : Below w.heap.size w W1 :=
  h.grown hg h.size (fun k hk => by cases hk; exact hb)
section
variable {P : Program} {ops : Array Oper} {rest : List Oper} {o : Oper} {a : Act} {W : World} {Q : Exit → Act → World → Prop}
theorem box_store (hgd : o.guard = none) (hN : o.dst = none) (ty : TypeId) (x y : Operand) (ho : o.op = .store ty x y)
    {g : Nat} {t : TypeId} {old : Array Value} (hg : W.heap[g]? = some (.cells old t (0, 0))) (cells : Array Value) (hx : a.eval x = .pointer (some ⟨g, 0, none⟩)) (hy : a.eval y = .agg cells)
    (hi : (P.info? ty).map (·.size) = some cells.size) (hold : old.size = cells.size) (h1 : cells.toList.all (·.oneCell') = true)
    (h : ∀ w1, w1.heap[g]? = some (.cells cells t (0, 0)) → W.grownBy w1 (some g) → wpList P ops Q rest a w1) : wpList P ops Q (o :: rest) a W := by
  refine wpList_store_row hgd ty x y ho g cells hx hy t old hg hi hold (by rw [← Array.all_toList]; exact h1) ?_
  rw [hN]
  exact h _ (setRow_heap W g old cells t (0, 0) hg) (grown_setRow W g cells)
theorem box_load (hgd : o.guard = none) (ty : TypeId) (x : Operand) (ho : o.op = .load ty x) {g : Nat} {t : TypeId} {cs : Array Value} (hg : W.heap[g]? = some (.cells cs t (0, 0)))
    (hx : a.eval x = .pointer (some ⟨g, 0, none⟩)) {d : TypeDesc} (hu : P.underlying ty = some d) (hd : (match d with | .struct _ | .array _ _ => true | _ => false) = true)
    (hi : (P.info? ty).map (·.size) = some cs.size) (h : wpList P ops Q rest (a.put o.dst (.agg cs)) W) : wpList P ops Q (o :: rest) a W :=
  wpList_load_row hgd ty x ho g hx t cs (0, 0) d hg hu hd hi h
theorem results_row_tmp {fn : Func} {p q : Tmp} {ty : TypeId} (h : fn.results = #[.cell p ty, .tmp q]) (tmps : Array Value) (w : World) {g : Nat} {t : TypeId} {cs : Array Value} {d : TypeDesc} (v : Value)
    (hg : w.heap[g]? = some (.cells cs t (0, 0))) (hp : tmps.getD p undef = .pointer (some ⟨g, 0, none⟩)) (hq : tmps.getD q undef = v)
    (hu : P.underlying ty = some d) (hd : (match d with | .struct _ | .array _ _ => true | _ => false) = true) (hi : (P.info? ty).map (·.size) = some cs.size) :
    (results fn tmps).run P w = .ok (.tuple #[.agg cs, v]) w := by
  have hp' : tmps[p]?.getD undef = .pointer (some ⟨g, 0, none⟩) := by simpa using hp
  have hq' : tmps[q]?.getD undef = v := by simpa using hq
  simp [results, h, hp', hq', asAddr, run_loadVar_row w g t ty cs (0, 0) d hg hu hd hi]
end
end Go.Proofs.YtdggdmdefmljlaaDoorK

namespace Go.Proofs.YtdggdmdefmljlaaDoorK
open Go Go.RowKit Go.Proofs.YtdggdmdefmljlaaDoorW.PrintWords
/-! What a walk keeps, by classes: each world tells the one it came of; what was known of a block, or of a row, is known at every later world without a word. -/
/-- Which of the elder blocks may have been written: none, one, or all from b on. -/
inductive Touch where
  | none
  | row (g : Nat)
  | above (b : Nat)
/-- Block k was not. -/
def Touch.Ok : Touch → Nat → Prop
  | .none, _ => True
  | .row g, k => k ≠ g
  | .above b, k => k < b
structure Kept0 (W W' : World) (T : Touch) : Prop where
  os : W'.os = W.os
  tape : W'.tape = W.tape
  output : W'.output = W.output
  size : W.heap.size ≤ W'.heap.size
  block : ∀ k, k < W.heap.size → T.Ok k → W'.heap[k]? = W.heap[k]?
/-- W' came of W. -/
class Prev (W' : World) (W : outParam World) (T : outParam Touch) : Prop where
  out : Kept0 W W' T
theorem kept_below {W W' : World} (h : Below W.heap.size W W') : Kept0 W W' .none := ⟨h.os, h.tape, h.output, h.size, fun k hk _ => h.block k hk⟩
theorem kept_above {W W' : World} {b : Nat} (h : Below b W W') : Kept0 W W' (.above b) := ⟨h.os, h.tape, h.output, h.size, fun k _ hk => h.block k hk⟩
theorem kept_row {W W' : World} {g : Nat} (h : W.grownBy W' (some g)) : Kept0 W W' (.row g) := ⟨h.os, h.tape, h.output, h.size, fun k hk hne => h.block k hk (fun e => hne (Option.some.inj e))⟩
theorem kept_grown {W W' : World} (h : W.grownBy W' Option.none) : Kept0 W W' .none := ⟨h.os, h.tape, h.output, h.size, fun k hk _ => h.block k hk (by simp)⟩
instance (W : World) (o : Obj) : Prev (W.alloc o) W .none := ⟨kept_grown (World.grownBy_alloc W o Option.none)⟩
instance (W : World) : Prev W.drew W .none := ⟨⟨rfl, rfl, rfl, Nat.le_refl _, fun _ _ _ => rfl⟩⟩
instance (W : World) (n : Nat) : Prev (W.drewN n) W .none := ⟨kept_below (pw_below_drewN (Below.refl W.heap.size W) n)⟩
instance (W : World) (g j : Nat) (v : Value) : Prev (W.setCell ⟨g, j, Option.none⟩ v) W (.row g) := by
  have h := (Below.refl g W).setCell (p := ⟨g, j, Option.none⟩) (Nat.le_refl _) v
  exact ⟨⟨h.os, h.tape, h.output, by simp [World.setCell], fun k _ hne => Below.heap_setCell W ⟨g, j, Option.none⟩ v k hne⟩⟩
theorem prev_call {W W1 : World} (h : Below W.heap.size W W1) : Prev W1 W .none := ⟨kept_below h⟩
theorem prev_above {W W1 : World} {b : Nat} (h : Below b W W1) : Prev W1 W (.above b) := ⟨kept_above h⟩
theorem prev_row {W W1 : World} {g : Nat} (h : W.grownBy W1 (some g)) : Prev W1 W (.row g) := ⟨kept_row h⟩
/-- The row that an append may have written. -/
def touchOf : Option Nat → Touch
  | Option.none => .none
  | some g => .row g
theorem prev_grown {W W1 : World} {row : Option Nat} (h : W.grownBy W1 row) : Prev W1 W (touchOf row) := by
  cases row with
  | none => exact ⟨kept_grown h⟩
  | some g => exact prev_row h
/-- Block g is not what was written. -/
class Apart (g : Nat) (T : Touch) : Prop where
  out : T.Ok g
instance (g : Nat) : Apart g .none := ⟨trivial⟩
theorem apart_ne {g g' : Nat} (h : g ≠ g') : Apart g (.row g') := ⟨h⟩
theorem apart_lt {g b : Nat} (h : g < b) : Apart g (.above b) := ⟨h⟩
instance (n : Nat) : Apart n (.above (n + 1)) := ⟨Nat.lt_succ_self n⟩
instance (n : Nat) : Apart n (.above (n + 2)) := ⟨by show n < n + 2; omega⟩
instance (n : Nat) : Apart n (.row (n + 1)) := ⟨Nat.ne_of_lt (Nat.lt_succ_self n)⟩
/-- What was written is b's own: block b or a later one. -/
class OwnB (b : Nat) (T : Touch) : Prop where
  out : ∀ k, k < b → T.Ok k
instance (b : Nat) : OwnB b .none := ⟨fun _ _ => trivial⟩
theorem own_row {b g : Nat} (h : b ≤ g) : OwnB b (.row g) := ⟨fun k hk e => by subst e; omega⟩
theorem own_above {b g : Nat} (h : b ≤ g) : OwnB b (.above g) := ⟨fun _ hk => Nat.lt_of_lt_of_le hk h⟩
instance (b : Nat) : OwnB b (.row b) := own_row (Nat.le_refl b)
instance (b n : Nat) : OwnB b (.row (b + n)) := own_row (Nat.le_add_right b n)
instance (b : Nat) : OwnB b (.above b) := own_above (Nat.le_refl b)
instance (b n : Nat) : OwnB b (.above (b + n)) := own_above (Nat.le_add_right b n)
/-- Below b nothing is turned. -/
class Bel (b : Nat) (W W' : World) : Prop where
  out : b ≤ W.heap.size → Below b W W'
instance (b : Nat) (W : World) : Bel b W W := ⟨fun _ => Below.refl _ _⟩
instance (b : Nat) (W W1 W' : World) (T : Touch) [p : Prev W' W1 T] [h : Bel b W W1] [o : OwnB b T] : Bel b W W' :=
  ⟨fun hb => by
    have h1 := h.out hb
    have h2 := p.out
    refine h1.trans ⟨h2.os, h2.tape, h2.output, h2.size, fun k hk => h2.block k (by have := h1.size; omega) (o.out k hk)⟩⟩
theorem bel (w W : World) [h : Bel w.heap.size w W] : Below w.heap.size w W := h.out (Nat.le_refl _)
theorem siz (w W : World) [h : Bel w.heap.size w W] : w.heap.size ≤ W.heap.size := (bel w W).size
/-- How large the heap is at least. -/
class Size (n : Nat) (W : World) : Prop where
  out : n ≤ W.heap.size
instance (W : World) : Size W.heap.size W := ⟨Nat.le_refl _⟩
instance (priority := low) (n : Nat) (W W' : World) (T : Touch) [p : Prev W' W T] [h : Size n W] : Size n W' := ⟨Nat.le_trans h.out p.out.size⟩
instance (W : World) (o : Obj) : Size (W.heap.size + 1) (W.alloc o) := ⟨by rw [World.size_alloc]; exact Nat.le_refl _⟩
/-- Block g of world W is o. -/
class Holds (W : World) (g : Nat) (o : outParam Obj) : Prop where
  out : W.heap[g]? = some o
instance holds_new (W : World) (o : Obj) : Holds (W.alloc o) W.heap.size o := ⟨blk_new W o⟩
instance (W : World) (o1 o : Obj) : Holds ((W.alloc o1).alloc o) (W.heap.size + 1) o := ⟨by have := blk_new (W.alloc o1) o; rwa [World.size_alloc] at this⟩
instance (W : World) (o1 o2 o : Obj) : Holds (((W.alloc o1).alloc o2).alloc o) (W.heap.size + 2) o := ⟨by have := blk_new ((W.alloc o1).alloc o2) o; rwa [World.size_alloc, World.size_alloc] at this⟩
instance (priority := low) holds_step (W' W : World) (T : Touch) (g : Nat) (o : Obj) [p : Prev W' W T] [a : Apart g T] [h : Holds W g o] : Holds W' g o := ⟨(p.out.block g (blk_lt h.out) a.out).trans h.out⟩
instance (W : World) (g j : Nat) (v : Value) (cs : Array Value) (t : TypeId) [h : Holds W g (.cells cs t (0, 0))] : Holds (W.setCell ⟨g, j, Option.none⟩ v) g (.cells (cs.setIfInBounds j v) t (0, 0)) := ⟨blk_set h.out j v⟩
theorem held {W : World} {g : Nat} {o : Obj} [h : Holds W g o] : W.heap[g]? = some o := h.out
theorem cell_held {W : World} {g j : Nat} {cs : Array Value} {t : TypeId} [h : Holds W g (.cells cs t (0, 0))] : W.cell? ⟨g, j, Option.none⟩ = cs[j]? := blk_cell h.out j
theorem frozen_held {W : World} {g j : Nat} {cs : Array Value} {t : TypeId} [h : Holds W g (.cells cs t (0, 0))] : W.frozen? ⟨g, j, Option.none⟩ = false := blk_frozen h.out j
theorem held_lt {W : World} {g : Nat} {o : Obj} [h : Holds W g o] : g < W.heap.size := blk_lt h.out
/-- No block of the types L was written. -/
class NoRow (L : List Nat) (W : World) (T : Touch) : Prop where
  out : ∀ k t cells, W.heap[k]? = some (.cells cells t (0, 0)) → t ∈ L → T.Ok k
instance (L : List Nat) (W : World) : NoRow L W .none := ⟨fun _ _ _ _ _ => trivial⟩
theorem noRow_row {L : List Nat} {W : World} {g t : Nat} {cs : Array Value} (h : W.heap[g]? = some (.cells cs t (0, 0))) (hL : ∀ q, q ∈ L → q ≠ t) : NoRow L W (.row g) :=
  ⟨fun k t' cells hc ht e => by
    subst e
    rw [hc] at h
    injection h with h
    injection h with _ h
    exact hL t' ht h⟩
/-- Rows of the types L are kept. -/
class Rows0 (L : List Nat) (W W' : World) : Prop where
  out : ∀ {α : Type} (d : Kd α) (e base : Nat) (v : Value) (xs : List α), e :: d.E = L → d.R e W base (fun _ => True) v xs → d.R e W' base (fun _ => True) v xs
instance (L : List Nat) (W : World) : Rows0 L W W := ⟨fun _ _ _ _ _ _ h => h⟩
instance (L : List Nat) (W W1 W' : World) (T : Touch) [p : Prev W' W1 T] [h : Rows0 L W W1] [o : NoRow L W1 T] : Rows0 L W W' :=
  ⟨fun d e base v xs hL hr => by
    have h1 := h.out d e base v xs hL hr
    refine Kd.R_mono (Kd.R_step (Kd.R_bound h1) (fun k hk hlt => ?_)) (fun _ hk => hk.1)
    obtain ⟨_, _, _, q, hq, cells, hc⟩ := hk
    exact p.out.block k hlt (o.out k q cells hc (by rw [← hL]; exact hq))⟩
theorem apart_R {α : Type} {d : Kd α} {e base : Nat} {W : World} {v : Value} {xs : List α} {ok : Nat → Prop} (h : d.R e W base ok v xs) {g t : Nat} {cs : Array Value} (hg : W.heap[g]? = some (.cells cs t (0, 0))) (ht : e ≠ t) : Apart g (touchOf v.ownBlock) := by
  have h1 := Kd.R_ne h hg ht
  constructor
  cases hv : v.ownBlock with
  | none => trivial
  | some k => exact fun he => h1 (by rw [hv, he])
theorem ownB_R {α : Type} {d : Kd α} {e base b : Nat} {W : World} {v : Value} {xs : List α} {ok : Nat → Prop} (h : d.R e W base ok v xs) (hb : b ≤ base) : OwnB b (touchOf v.ownBlock) := by
  have h1 := Kd.R_base h
  cases hv : v.ownBlock with
  | none => exact ⟨fun _ _ => trivial⟩
  | some k => exact own_row (Nat.le_trans hb (h1 k hv))
theorem noRow_R {α : Type} {d : Kd α} {e base : Nat} {W : World} {v : Value} {xs : List α} {ok : Nat → Prop} {L : List Nat} (h : d.R e W base ok v xs) (hL : ∀ q, q ∈ L → q ≠ e) : NoRow L W (touchOf v.ownBlock) := by
  have h1 := Kd.R_typed h
  cases hv : v.ownBlock with
  | none => exact ⟨fun _ _ _ _ _ => trivial⟩
  | some k =>
    obtain ⟨cells, hc⟩ := h1 k hv
    exact noRow_row hc hL
theorem rowK {α : Type} {d : Kd α} {e base : Nat} {W W' : World} {v : Value} {xs : List α} (h : d.R e W base (fun _ => True) v xs) [r : Rows0 (e :: d.E) W W'] : d.R e W' base (fun _ => True) v xs := r.out d e base v xs rfl h
end Go.Proofs.YtdggdmdefmljlaaDoorK

namespace Go.Proofs.YtdggdmdefmljlaaDoorK
open Go Go.RowKit Go.ChangeShapes Go.WideShapes Go.Deep Go.Proofs.YtdggdmdefmljlaaDoorW.PrintWords
/-! Arrays of 32 bytes, whole. -/
structure Sum where
  l : List UInt8
  h : l.length = 32
theorem Sum.eq {a b : Sum} (h : a.l = b.l) : a = b := by cases a; cases b; simp only at h; subst h; rfl
def sumL (s : Sum) : List Value := s.l.map fun b => .int .u8 (b.toNat : Int)
theorem sumL_len (s : Sum) : (sumL s).length = 32 := by unfold sumL; rw [List.length_map, s.h]
def sum0 : Sum := ⟨List.replicate 32 0, by decide⟩
def kSum : Kd Sum where
  sz := 32
  E := []
  K := fun _ x cs => cs = sumL x
  M := fun _ _ _ x cs => cs = sumL x
  K_len := fun h => by rw [h, sumL_len]
  K_one := fun h u hu => by
    rw [h] at hu
    obtain ⟨b, _, rfl⟩ := List.mem_map.1 hu
    rfl
  K_below := fun _ h => h
  K_of_M := fun h => h
  M_mono := fun _ h => h
  M_bound := fun h => h
  M_move := fun _ h => h
  M_lower := fun _ h => h
section
variable {P : Program} {t e : TypeId}
theorem u8_back {n : Int} (h : (Lit.int .u8 n).wf = true) : ((UInt8.ofNat n.toNat).toNat : Int) = n := by
  simp [Lit.wf, IntKind.min, IntKind.max, IntKind.signed, IntKind.bits] at h
  simp [UInt8.toNat_ofNat']
  omega
theorem opens_sum (ht : P.underlying t = some (.array 32 e)) (he : P.underlying e = some (.int .u8)) (hc : P.cellsOf e = 1) (hs : P.cellsOf t = 32) : Opens P t kSum (fun _ => True) := by
  intro H enc w base spare held fuel cs x h
  obtain ⟨xs, m, _, _, hl, hxl, hx⟩ := DataW.trod_array ht h
  rw [hs] at hl
  rw [hc] at hx
  have key : ∀ i, i < 32 → ∃ b : UInt8, cs[i]? = some (.int .u8 (b.toNat : Int)) := by
    intro i hi
    have h1 := hx i hi
    rw [Nat.mul_one, List.getElem?_eq_getElem (by omega)] at h1
    obtain ⟨n, hn, _, hw⟩ := DataW.trod_int he h1
    have hlt : i < cs.length := by omega
    have h2 : (cs.drop i).take 1 = [cs[i]] := by rw [List.drop_eq_getElem_cons hlt]; rfl
    rw [h2] at hn
    injection hn with hn _
    refine ⟨UInt8.ofNat n.toNat, ?_⟩
    rw [List.getElem?_eq_getElem hlt, hn, u8_back hw]
  obtain ⟨l, hll, hlp⟩ := pick_list 32 key
  refine ⟨⟨l, hll⟩, ?_, trivial⟩
  show cs = sumL ⟨l, hll⟩
  apply List.ext_getElem?
  intro i
  show cs[i]? = (l.map fun b => Value.int .u8 (b.toNat : Int))[i]?
  rw [List.getElem?_map]
  rcases Nat.lt_or_ge i 32 with hi | hi
  · have h3 := hlp i l[i] (List.getElem?_eq_getElem (by omega))
    rw [h3, List.getElem?_eq_getElem (by omega)]
    rfl
  · rw [List.getElem?_eq_none (by omega), List.getElem?_eq_none (by omega)]
    rfl
theorem run_part_one {w : World} (he : P.underlying e = some (.int .u8)) (xs : Array Value) (j : Nat) (v : Value) (h : xs[j]? = some v) : (part e xs j).run P w = .ok v w := by
  unfold part isAgg
  simp [Sem.run_bind, run_underlying he, h]
theorem eqItems_bytes {w : World} (d : Nat) (he : P.underlying e = some (.int .u8)) (xs ys : Array Value) (l m : List UInt8) (hx : ∀ (j : Nat) b, l[j]? = some b → xs[j]? = some (.int .u8 (b.toNat : Int))) (hy : ∀ (j : Nat) b, m[j]? = some b → ys[j]? = some (.int .u8 (b.toNat : Int))) :
    ∀ is : List Nat, (∀ j ∈ is, j < l.length ∧ j < m.length) → (Op.eqItems (d + 1) e 1 xs ys is).run P w = .ok (is.all fun j => l[j]? == m[j]?) w := by
  intro is
  induction is with
  | nil => intro _; simp [Op.eqItems]
  | cons j is ih =>
    intro hj
    obtain ⟨h1, h2⟩ := hj j (by simp)
    have a := run_part_one (P := P) (w := w) he xs (j * 1) _ (by rw [Nat.mul_one]; exact hx j l[j] (List.getElem?_eq_getElem h1))
    have b := run_part_one (P := P) (w := w) he ys (j * 1) _ (by rw [Nat.mul_one]; exact hy j m[j] (List.getElem?_eq_getElem h2))
    have c : (Op.equalIn (d + 1) e (.int .u8 (l[j].toNat : Int)) (.int .u8 (m[j].toNat : Int))).run P w = .ok (l[j] == m[j]) w := by
      have e1 : (((l[j].toNat : Nat) : Int) == ((m[j].toNat : Nat) : Int)) = (l[j] == m[j]) := by
        rw [Bool.eq_iff_iff]
        simp only [beq_iff_eq]
        constructor
        · intro h; exact UInt8.toNat.inj (by omega)
        · intro h; rw [h]
      simp [Op.equalIn, Sem.run_bind, run_underlying he, e1]
    simp only [Op.eqItems, Sem.run_bind, a, b, c, Result.andThen_ok]
    rw [List.all_cons, List.getElem?_eq_getElem h1, List.getElem?_eq_getElem h2]
    by_cases hq : l[j] = m[j]
    · have q1 : (l[j] == m[j]) = true := beq_iff_eq.2 hq
      have q2 : (some l[j] == some m[j]) = true := by simp [hq]
      rw [q1, q2]
      simpa using ih (fun k hk => hj k (by simp [hk]))
    · have q1 : (l[j] == m[j]) = false := beq_eq_false_iff_ne.2 hq
      have q2 : (some l[j] == some m[j]) = false := by simp [hq]
      rw [q1, q2]
      simp
theorem eq_sum {w : World} {i : TypeInfo} (d : Nat) (ht : P.underlying t = some (.array 32 e)) (he : P.underlying e = some (.int .u8)) (hc : P.cellsOf e = 1) (hi : P.info? e = some i) (xs ys : Array Value) (s r : Sum) (hx : xs.toList = sumL s) (hy : ys.toList = sumL r) :
    (Op.equalIn (d + 2) t (.agg xs) (.agg ys)).run P w = .ok (s.l == r.l) w := by
  have g : ∀ (zs : Array Value) (q : Sum), zs.toList = sumL q → ∀ (j : Nat) b, q.l[j]? = some b → zs[j]? = some (.int .u8 (b.toNat : Int)) := by
    intro zs q hz j b hb
    rw [← Array.getElem?_toList, hz]
    unfold sumL
    rw [List.getElem?_map, hb]
    rfl
  rw [run_equalIn_array (P := P) (w := w) (d + 1) xs ys ht hi, hc, eqItems_bytes d he xs ys s.l r.l (g xs s hx) (g ys r hy) _ (fun j hj => by rw [List.mem_range] at hj; rw [s.h, r.h]; exact ⟨hj, hj⟩)]
  congr 1
  rw [Bool.eq_iff_iff, List.all_eq_true, beq_iff_eq]
  constructor
  · intro h
    apply List.ext_getElem?
    intro j
    rcases Nat.lt_or_ge j 32 with hj | hj
    · simpa using h j (List.mem_range.2 hj)
    · rw [List.getElem?_eq_none (by rw [s.h]; exact hj), List.getElem?_eq_none (by rw [r.h]; exact hj)]
  · intro h j _
    rw [h]
    simp
end
end Go.Proofs.YtdggdmdefmljlaaDoorK

namespace Go.Proofs.YtdggdmdefmljlaaDoorK
open Go Go.RowKit Go.Proofs.YtdggdmdefmljlaaDoorW.PrintWords
/-! Whole structs and arrays out of memory, wherever they lie. -/
section
variable {P : Program} {ops : Array Oper} {rest : List Oper} {o : Oper} {a : Act} {W : World} {Q : Exit → Act → World → Prop}
/-- The cells cs lie at ad. -/
def At (W : World) (ad : Addr) (cs : List Value) : Prop := ∀ (j : Nat) (u : Value), cs[j]? = some u → W.cell? (ad.add j) = some u
theorem add_zero_ (ad : Addr) : ad.add 0 = ad := by unfold Addr.add; split <;> simp_all
theorem add_at (g i j : Nat) : (⟨g, i, none⟩ : Addr).add j = ⟨g, i + j, none⟩ := by unfold Addr.add; split <;> simp_all
theorem At_box {g : Nat} {cs : Array Value} {t : TypeId} (h : W.heap[g]? = some (.cells cs t (0, 0))) : At W ⟨g, 0, none⟩ cs.toList := fun j u hj => by
  rw [add_at, Nat.zero_add, blk_cell h]
  simpa using hj
theorem At_seg {g i : Nat} {cs : Array Value} {t : TypeId} {l : List Value} (h : W.heap[g]? = some (.cells cs t (0, 0))) (hl : ∀ (j : Nat) (u : Value), l[j]? = some u → cs[i + j]? = some u) : At W ⟨g, i, none⟩ l := fun j u hj => by
  rw [add_at, blk_cell h]
  exact hl j u hj
theorem run_loadVar_at {ty : TypeId} {ad : Addr} {cs : List Value} {d : TypeDesc} (hc : At W ad cs) (hu : P.underlying ty = some d) (hd : (match d with | .struct _ | .array _ _ => true | _ => false) = true) (hi : (P.info? ty).map (·.size) = some cs.length) :
    (loadVar ty ad).run P W = .ok (.agg cs.toArray) W := by
  have hl : (loadCells ad cs.length).run P W = .ok cs.toArray W := run_loadCells_list (P := P) W ad cs hc
  cases hq : P.info? ty with
  | none => simp [hq] at hi
  | some i =>
    have hs : i.size = cs.length := by simpa [hq] using hi
    have hagg : (isAgg ty).run P W = .ok true W := by
      unfold isAgg
      rw [Sem.run_bind, run_underlying hu W]
      cases d <;> simp_all
    simp [loadVar, Sem.run_bind, hagg, sizeOf, typeInfo, hq, hs, hl]
/-- A struct, or an array, is read whole. -/
theorem seg_load (hgd : o.guard = none) (ty : TypeId) (x : Operand) (ho : o.op = .load ty x) {ad : Addr} {cs : List Value} (hc : At W ad cs) (arr : Array Value) (harr : arr = cs.toArray)
    (hx : a.eval x = .pointer (some ad)) {d : TypeDesc} (hu : P.underlying ty = some d) (hd : (match d with | .struct _ | .array _ _ => true | _ => false) = true)
    (hi : (P.info? ty).map (·.size) = some cs.length) (h : wpList P ops Q rest (a.put o.dst (.agg arr)) W) : wpList P ops Q (o :: rest) a W := by
  subst harr
  refine wpList_plain hgd fun K hK => ?_
  unfold Oper.wp execOp
  simp only [ho, hx, Instr.loadAt, Instr.sureAddr, Sem.run_bind, Sem.run_pure, Result.andThen_ok, run_loadVar_at hc hu hd hi]
  exact hK _ _ h
/-- The same in a region that draws its order and only reads. -/
theorem quiet_load {C : World → Prop} {K : Act → Prop} (hw : Region.wanted o (yielded ops a.tmps) = true) (ty : TypeId) (x : Operand) (ho : o.op = .load ty x) {ad : Addr} {cs : List Value} (arr : Array Value) (harr : arr = cs.toArray) (hc : ∀ w, C w → At w ad cs)
    (hx : a.eval x = .pointer (some ad)) {d : TypeDesc} (hu : P.underlying ty = some d) (hd : (match d with | .struct _ | .array _ _ => true | _ => false) = true)
    (hi : (P.info? ty).map (·.size) = some cs.length) (h : K (a.put o.dst (.agg arr))) : if Region.wanted o (yielded ops a.tmps) = true then o.quiet P a C K else K (a.put o.dst undef) := by
  subst harr
  rw [if_pos hw]
  refine ⟨_, fun w hC => ?_, h⟩
  unfold Oper.quietAt execOp
  simp only [ho, hx, Instr.loadAt, Instr.sureAddr, Sem.run_bind, Sem.run_pure, Result.andThen_ok, run_loadVar_at (hc w hC) hu hd hi]
  exact ⟨rfl, rfl⟩
/-- An operation that tells a value and turns nothing. -/
theorem val_event (hgd : o.guard = none) {N : Tmp} (_hd : o.dst = some N) {v : Value} (hrun : (execOp a.eval o).run P W = .ok (.value v) W) (h : wpList P ops Q rest (a.put o.dst v) W) : wpList P ops Q (o :: rest) a W :=
  Kd.event_run hgd hrun h
/-- 'string(x[:])' of an array of 32 bytes. -/
theorem sumstr_event (hgd : o.guard = none) {src dst e : TypeId} {x : Operand} (ho : o.op = .convert src dst x) {ad : Addr} {cap : Nat} {s : Sum} (hc : At W ad (sumL s)) (hx : a.eval x = .slice (some ad) 32 cap)
    (hs : P.underlying src = some (.slice e)) (he : P.underlying e = some (.int .u8)) (hd : P.underlying dst = some .string)
    (h : wpList P ops Q rest (a.put o.dst (.string ⟨s.l.toArray⟩)) W) : wpList P ops Q (o :: rest) a W := by
  have hr := run_convert_bytes_back (P := P) W src dst e ad cap s.l hs he hd (fun j hj => hc j _ (by unfold sumL; rw [List.getElem?_map, List.getElem?_eq_getElem hj]; rfl))
  rw [s.h] at hr
  exact Kd.event_run hgd (by unfold execOp; simp only [ho, hx, Sem.run_bind, hr, Result.andThen_ok, Sem.run_pure]) h
/-- A new block, by whatever operation: its world under a name. -/
theorem new_event (hgd : o.guard = none) {N : Tmp} (_hd : o.dst = some N) {v : Value} {ob : Obj} (hrun : (execOp a.eval o).run P W = .ok (.value v) (W.alloc ob))
    (h : ∀ w1, Prev w1 W .none → Holds w1 W.heap.size ob → wpList P ops Q rest (a.put o.dst v) w1) : wpList P ops Q (o :: rest) a W :=
  Kd.event_run hgd hrun (h _ inferInstance inferInstance)
end
end Go.Proofs.YtdggdmdefmljlaaDoorK

namespace Go.Proofs.YtdggdmdefmljlaaDoorK
open Go Go.RowKit Go.Proofs.YtdggdmdefmljlaaDoorW.PrintWords
/-! 'copy(x[i:], s)' of a string that may be too long. -/
theorem run_copy_min {P : Program} (w : World) (dT sT ty elem : TypeId) (g o dLen dCap : Nat) (s : ByteArray) (cur : Array Value) (t : TypeId)
    (hu : P.underlying dT = some (.slice elem)) (hs : (P.info? elem).map (·.size) = some 1) (hg : w.heap[g]? = some (.cells cur t (0, 0))) (hfit : o + min s.size dLen ≤ cur.size) :
    (Builtin.copy_ #[dT, sT] ty #[.slice (some ⟨g, o, none⟩) dLen dCap, .string s]).run P w =
      .ok (goInt (min s.size dLen)) (w.setRow g (cur.toList.take o ++ Lib.byteCells (s.data.toList.take (min s.size dLen)) ++ cur.toList.drop (o + min s.size dLen)).toArray) := by
  have hlen : (Lib.byteCells (s.data.toList.take (min s.size dLen))).length = min s.size dLen := by
    rw [Lib.byteCells_length, List.length_take]
    have : s.data.toList.length = s.size := by simp
    omega
  have hst := run_storeCells_at P g o t (Lib.byteCells (s.data.toList.take (min s.size dLen))) 0 cur w hg (by rw [hlen]; simpa using hfit) (Lib.byteCells_one _)
  have htk : List.take (min s.size dLen) (List.map (fun b : UInt8 => Value.int IntKind.u8 (b.toNat : Int)) s.data.toList) = Lib.byteCells (s.data.toList.take (min s.size dLen)) := by
    rw [← List.map_take]
    rfl
  rw [hlen] at hst
  simp only [Nat.add_zero] at hst
  cases hq : P.info? elem with
  | none => simp [hq] at hs
  | some i =>
    have hm : Nat.min s.size dLen = min s.size dLen := rfl
    simp [Builtin.copy_, run_underlying hu, Builtin.lenOf, Builtin.firstCells, sizeOf, typeInfo, hq, hm]
    rw [htk, hst]
    simp [Result.andThen]
    try (congr 1; omega)
/-- A struct laid cell by cell into a new row is the struct. -/
theorem laid_list : ∀ (l : List Value) (k : Nat) (acc : Array Value), acc.size = k + l.length → (l.zipIdx k).foldl (fun cs x => cs.setIfInBounds x.2 x.1) acc = (acc.toList.take k ++ l).toArray
  | [], k, acc, h => by
    simp only [List.zipIdx_nil, List.foldl_nil, List.append_nil]
    rw [List.take_of_length_le (by simp at h ⊢; omega)]
  | v :: l, k, acc, h => by
    simp only [List.zipIdx_cons, List.foldl_cons]
    simp only [List.length_cons] at h
    rw [laid_list l (k + 1) _ (by simp; omega)]
    congr 1
    have hk : k < acc.toList.length := by simp; omega
    rw [Array.toList_setIfInBounds, List.take_succ_eq_append_getElem (by simpa using hk), List.take_set_of_le (Nat.le_refl k), List.getElem_set_self]
    simp
theorem laid_row (zs cs : Array Value) (n : Nat) (h : zs.size = n) (hn : cs.size = n) : Array.foldl (fun cs x => cs.setIfInBounds x.2 x.1) zs cs.zipIdx 0 n = cs := by
  have h1 := laid_list cs.toList 0 zs (by simp; omega)
  have h2 : cs.zipIdx.size = n := by simp [hn]
  have h3 := Array.foldl_toList (fun (cs : Array Value) (x : Value × Nat) => cs.setIfInBounds x.2 x.1) (init := zs) (xs := cs.zipIdx)
  rw [← h2]
  rw [← h3, Array.toList_zipIdx, h1]
  simp
section
variable {P : Program} {ops : Array Oper} {oi : Oper} {a : Act} {w : World} {Q : Exit → Act → World → Prop} {K : Act → World → Prop}
theorem copy_step {N : Option Tmp} (d x : Operand) (dT sT elem : TypeId) (hw : Region.wanted oi (yielded ops a.tmps) = true) (hN : oi.dst = N) (hop : oi.op = .call { callee := .builtin .copy, args := #[d, x], argTypes := #[dT, sT] })
    {g o dLen dCap : Nat} {s : ByteArray} {cur : Array Value} {t : TypeId} (hg : w.heap[g]? = some (.cells cur t (0, 0))) (hd : a.eval d = .slice (some ⟨g, o, none⟩) dLen dCap) (hx : a.eval x = .string s)
    (hu : P.underlying dT = some (.slice elem)) (hs : (P.info? elem).map (·.size) = some 1) (hfit : o + min s.size dLen ≤ cur.size)
    (h : ∀ w1, w1.heap[g]? = some (.cells (cur.toList.take o ++ Lib.byteCells (s.data.toList.take (min s.size dLen)) ++ cur.toList.drop (o + min s.size dLen)).toArray t (0, 0)) → w.grownBy w1 (some g) → K (a.put N (goInt (min s.size dLen))) w1) :
    if Region.wanted oi (yielded ops a.tmps) = true then Oper.wp P oi a w K Q else K (a.put N undef) w := by
  rw [if_pos hw]
  subst hN
  have hrun := run_copy_min (P := P) w dT sT oi.type elem g o dLen dCap s cur t hu hs hg hfit
  have hr : (execOp a.eval oi).run P w = .ok (.value (goInt (min s.size dLen))) (w.setRow g (cur.toList.take o ++ Lib.byteCells (s.data.toList.take (min s.size dLen)) ++ cur.toList.drop (o + min s.size dLen)).toArray) := by
    unfold execOp
    simp only [hop]
    simp [resolve, invoke, builtin, hd, hx, hrun, Result.andThen]
  unfold Oper.wp
  rw [hr]
  exact h _ (setRow_heap w g cur _ t (0, 0) hg) (grown_setRow w g _)
end
end Go.Proofs.YtdggdmdefmljlaaDoorK

namespace Go.Proofs.YtdggdmdefmljlaaDoorK
open Go Go.RowKit Go.Proofs.YtdggdmdefmljlaaDoorW.PrintWords Go.Proofs.YtdggdmdefmljlaaDoorW.PrintLast
/-! A whole box is written, in a region that draws its order. -/
theorem box_skip {P : Program} {ops : Array Oper} {oi : Oper} {a : Act} {W : World} {K : Act → World → Prop} {Q : Exit → Act → World → Prop} (hw : Region.wanted oi (yielded ops a.tmps) = true) (hN : oi.dst = none) (ty : TypeId) (x y : Operand) (ho : oi.op = .store ty x y)
    {g : Nat} {t : TypeId} {old : Array Value} (hg : W.heap[g]? = some (.cells old t (0, 0))) (cells : Array Value) (hx : a.eval x = .pointer (some ⟨g, 0, none⟩)) (hy : a.eval y = .agg cells)
    (hi : (P.info? ty).map (·.size) = some cells.size) (hold : old.size = cells.size) (h1 : cells.toList.all (·.oneCell') = true)
    (h : ∀ w1, w1.heap[g]? = some (.cells cells t (0, 0)) → W.grownBy w1 (some g) → K a w1) : if Region.wanted oi (yielded ops a.tmps) = true then Oper.wp P oi a W K Q else K (a.put none undef) W := by
  rw [if_pos hw]
  refine wp_store_row ty x y ho g cells hx hy t old hg hi hold (by rw [← Array.all_toList]; exact h1) ?_
  rw [hN]
  exact h _ (setRow_heap W g old cells t (0, 0) hg) (grown_setRow W g cells)
end Go.Proofs.YtdggdmdefmljlaaDoorK

namespace Go.Proofs.YtdggdmdefmljlaaDoor.Q
open Go Go.Proofs Go.Shelf Go.RowKit Go.Lib Go.Sort Go.Proofs.YtdggdmdefmljlaaDoorP Go.Proofs.YtdggdmdefmljlaaDoorK Go.Proofs.YtdggdmdefmljlaaDoorW.PrintWords Go.Proofs.YtdggdmdefmljlaaDoorW.PrintLast Go.Proofs.YtdggdmdefmljlaaDoorW.PrintMore
set_option linter.unusedSimpArgs false
set_option linter.unusedVariables false
/-! ### path.Compare -/
theorem split_c (W : World) (s : ByteArray) (hs : s.size < 4294967281) : Calls Tryd.prog 33 #[.string s, .string ⟨#[47]⟩] W fun e w' => ∃ l : List ByteArray, Aside0 (l.map (·.data.toList) = names s.data.toList) ∧ l.length ≤ 4294967281 ∧ e = .returned (.slice (some ⟨W.heap.size, 0, none⟩) l.length l.length) ∧ w' = W.alloc (.cells (l.map Value.string).toArray 9) := by
  have h := split_one laySplit (by kernel_rfl) s 47 W hs
  have hl := Lib.splitB_all ⟨#[47]⟩ (Nat.le_refl 1) 0 _ s rfl
  have hn : (Lib.splitB ⟨#[47]⟩ 0 (Lib.countB s ⟨#[47]⟩) s).map (·.data.toList) = names s.data.toList := by
    rw [Lib.splitB_data]
    exact split_names s.data.toList
  refine Calls.mono h ?_
  rintro e w' ⟨rfl, rfl⟩
  have hc := Lib.countB_le ⟨#[47]⟩ (Nat.le_refl 1) s.size s (Nat.le_refl _)
  exact ⟨_, ⟨hn⟩, by rw [hl]; omega, by rw [hl], rfl⟩
theorem strcmp_c (W : World) (a b : ByteArray) : Calls Tryd.prog 34 #[.string a, .string b] W fun e w' => e = .returned (.int .i64 (Lib.compareBytes a.data.toList b.data.toList)) ∧ w' = W := Any.strings_Compare layStrCmp a b W
theorem intcmp_c (W : World) (a b : Int) : Calls Tryd.prog 30 #[.int .i64 a, .int .i64 b] W fun e w' => e = .returned (.int .i64 (Lib.compareInt a b)) ∧ w' = W := AnyG.cmp_Compare_int layIntCmp a b W
theorem min2_mn (k k' : IntKind) (x y : Int) : Builtin.min2 (.int k x) (.int k' y) = pure (.int k (mn x y)) := by
  rw [min2_int]
  unfold mn
  rfl
attribute [local go_sem ↓] Go.Proofs.YtdggdmdefmljlaaDoorK.isSome_setCell
attribute [local go_sem] min2_mn min_two cell_held frozen_held
theorem lex_end {α : Type} (f : α → α → Int) (x y : List α) (k : Nat) (hx : k ≤ x.length) (hy : k ≤ y.length) (h : k = x.length ∨ k = y.length) : lexC f (x.drop k) (y.drop k) = Lib.compareInt x.length y.length := by
  unfold Lib.compareInt
  by_cases h1 : k = x.length
  · rw [List.drop_of_length_le (show x.length ≤ k by omega)]
    by_cases h2 : k = y.length
    · rw [List.drop_of_length_le (show y.length ≤ k by omega), if_neg (by omega), if_neg (by omega)]
      rfl
    · rw [List.drop_eq_getElem_cons (show k < y.length by omega), if_pos (by omega)]
      rfl
  · rw [List.drop_of_length_le (show y.length ≤ k by omega), List.drop_eq_getElem_cons (show k < x.length by omega), if_neg (by omega), if_pos (by omega)]
    rfl
def pcmpR.T5 : Bool × List (List Nat × List Nat) := (true, [([], []), ([], []), ([0, 1], [0, 1]), ([2], [2]), ([], []), ([], []), ([4, 5], [4, 5]), ([6], [6]), ([3, 7], [3, 7]), ([8, 8, 0, 1, 2, 3, 4, 5, 6, 7, 8], [8])])
def pcmpR.B5 : List Nat := [0, 0, 3, 7, 0, 0, 48, 112, 255, 511]
theorem pcmpR.tab5 : rtab .any (opsOf Tryd.f20 5) = pcmpR.T5 := by kernel_rfl
theorem pcmpR.bits5 : waitsOk pcmpR.T5.2 pcmpR.B5 = true := by kernel_rfl
theorem drewN_drew (W : World) (q : Nat) : (W.drewN q).drew = W.drewN (q + 1) := rfl
theorem two_grow (W : World) (o1 o2 : Obj) (q : Nat) : ((W.alloc o1).alloc o2).drewN q = grow (W.drewN q) #[o1, o2] := by
  have h : ((W.alloc o1).alloc o2).drewN q = ((W.drewN q).alloc o1).alloc o2 := rfl
  rw [h, alloc_eq_grow, alloc_eq_grow, grow_grow]
  rfl
set_option maxRecDepth 100000 in
set_option maxHeartbeats 2000000 in
theorem cmp_any (w : World) (a b : ByteArray) (ha : a.size < 4294967281) (hb : b.size < 4294967281) :
    Calls Tryd.prog 20 #[.string a, .string b] w fun e w' => e = .returned (.int .i64 (pcmp a b)) ∧ ∃ q os, w' = grow (w.drewN q) os := by
  have hsa := fun W => split_c W a ha
  have hsb := fun W => split_c W b hb
  have HSA := Aside0.mk hsa
  have HSB := Aside0.mk hsb
  clear hsa hsb ha hb
  go_enter Tryd.func20, Tryd.ntmps20
  go_wp2_with fail
  refine (HSA.out _).mono ?_
  rintro e w1 ⟨lA, hA, nA, rfl, rfl⟩
  go_wp2_with fail
  refine (HSB.out _).mono ?_
  rintro e w2 ⟨lB, hB, nB, rfl, rfl⟩
  obtain ⟨r, hpr⟩ : ∃ r, pcmp a b = r := ⟨_, rfl⟩
  have hr : Aside0 (cmpN (lA.map (·.data.toList)) (lB.map (·.data.toList)) = r) := ⟨by rw [hA.out, hB.out]; exact hpr⟩
  have HPR := Aside0.mk hpr
  clear hpr
  go_wp2_with fail
  generalize hm : mn (lA.length : Int) (lB.length : Int) = m
  have hm1 : m ≤ lA.length ∧ m ≤ lB.length ∧ (m = lA.length ∨ m = lB.length) := by unfold mn at hm; split at hm <;> omega
  clear hm
  go_loopw [18] (fun i wr => ∃ k q : Nat, (k : Int) ≤ m ∧ i = .int .i64 (k : Int) ∧ Aside0 (cmpN ((lA.drop k).map (·.data.toList)) ((lB.drop k).map (·.data.toList)) = r) ∧ Aside0 (wr = ((w.alloc (.cells (lA.map Value.string).toArray 9)).alloc (.cells (lB.map Value.string).toArray 9)).drewN q)) (fun i _ => m.toNat - (intOf i).toNat)
  case atStart => exact ⟨0, 0, by omega, rfl, hr, ⟨rfl⟩⟩
  case round =>
    obtain ⟨k, q, hk, rfl, HR, HW⟩ := hrel
    have hw := HW.out
    subst hw
    clear HW
    by_cases hlt : (k : Int) < m
    · have hka : k < lA.length := by omega
      have hkb : k < lB.length := by omega
      have hR := HR.out
      rw [List.drop_eq_getElem_cons hka, List.drop_eq_getElem_cons hkb, List.map_cons, List.map_cons] at hR
      have hsc := fun W => strcmp_c W lA[k] lB[k]
      simp only [cmpN, lexC] at hR
      generalize Lib.compareBytes lA[k].data.toList lB[k].data.toList = c at hR hsc
      have HSC := Aside0.mk hsc
      clear hsc
      go_wp2_with fail
      refine start_ (n := 10) (S := fun w' => w'.heap[w.heap.size]? = some (.cells (lA.map Value.string).toArray 9 (0, 0)) ∧ w'.heap[w.heap.size + 1]? = some (.cells (lB.map Value.string).toArray 9 (0, 0))) (ds := []) #[false, false, false, false, false, false, false, false, false, false] (by kernel_rfl) rfl rfl ⟨held, held⟩ (fun hHeld => ?_); refine with_tabW pcmpR.tab5 pcmpR.bits5 (fun HT_ HW_ => ?_)
      refine pure_ (i := 0) (N := some 21) (v := ?_) (a' := ?_) #[true, false, false, false, false, false, false, false, false, false] rfl rfl (any_of HT_.out (by kernel_rfl)) (fun _ _ _ h => h) (Or.inl ⟨by rfl, ?_⟩) ?_ ?_
      rotate_left
      · intro w'
        go_simp
        with_reducible rfl
      rotate_left
      · simp only [Act.put, List.setIfInBounds_toArray, List.set_cons_zero, List.set_cons_succ, i64_w, i32_w]
        rfl
      refine pure_ (i := 1) (N := some 22) (v := ?_) (a' := ?_) #[true, true, false, false, false, false, false, false, false, false] rfl rfl (any_of HT_.out (by kernel_rfl)) (fun _ _ _ h => h) (Or.inl ⟨by rfl, ?_⟩) ?_ ?_
      rotate_left
      · intro w'
        go_simp
        with_reducible rfl
      rotate_left
      · simp only [Act.put, List.setIfInBounds_toArray, List.set_cons_zero, List.set_cons_succ, i64_w, i32_w]
        rfl
      refine pure_ (i := 2) (N := some 23) (v := ?_) (a' := ?_) #[true, true, true, false, false, false, false, false, false, false] rfl rfl (any_of HT_.out (by kernel_rfl)) (fun _ _ _ h => h) (Or.inl ⟨by rfl, ?_⟩) ?_ ?_
      rotate_left
      · intro w'
        go_simp
        with_reducible rfl
      rotate_left
      · simp only [Act.put, List.setIfInBounds_toArray, List.set_cons_zero, List.set_cons_succ, i64_w, i32_w]
        rfl
      refine pure_ (i := 4) (N := some 25) (v := ?_) (a' := ?_) #[true, true, true, false, true, false, false, false, false, false] rfl rfl (any_of HT_.out (by kernel_rfl)) (fun _ _ _ h => h) (Or.inl ⟨by rfl, ?_⟩) ?_ ?_
      rotate_left
      · intro w'
        go_simp
        with_reducible rfl
      rotate_left
      · simp only [Act.put, List.setIfInBounds_toArray, List.set_cons_zero, List.set_cons_succ, i64_w, i32_w]
        rfl
      refine pure_ (i := 5) (N := some 26) (v := ?_) (a' := ?_) #[true, true, true, false, true, true, false, false, false, false] rfl rfl (any_of HT_.out (by kernel_rfl)) (fun _ _ _ h => h) (Or.inl ⟨by rfl, ?_⟩) ?_ ?_
      rotate_left
      · intro w'
        go_simp
        with_reducible rfl
      rotate_left
      · simp only [Act.put, List.setIfInBounds_toArray, List.set_cons_zero, List.set_cons_succ, i64_w, i32_w]
        rfl
      refine pure_ (i := 6) (N := some 27) (v := ?_) (a' := ?_) #[true, true, true, false, true, true, true, false, false, false] rfl rfl (any_of HT_.out (by kernel_rfl)) (fun _ _ _ h => h) (Or.inl ⟨by rfl, ?_⟩) ?_ ?_
      rotate_left
      · intro w'
        go_simp
        with_reducible rfl
      rotate_left
      · simp only [Act.put, List.setIfInBounds_toArray, List.set_cons_zero, List.set_cons_succ, i64_w, i32_w]
        rfl
      refine take_ (i := 3) (N := some 24) (v := ?_) (a' := ?_) #[true, true, true, true, true, true, true, false, false, false] rfl rfl (take_ofW HT_.out HW_.out (by kernel_rfl)) (fun _ _ _ h => h) (Or.inl ⟨by rfl, ?_⟩) hHeld ?_ ?_
      rotate_left
      · rintro w' ⟨s0, s1⟩
        have i0 : Holds w' w.heap.size (.cells (lA.map Value.string).toArray 9) := ⟨s0⟩
        have i1 : Holds w' (w.heap.size + 1) (.cells (lB.map Value.string).toArray 9) := ⟨s1⟩
        go_simp
        with_reducible rfl
      rotate_left
      · simp only [Act.put, List.setIfInBounds_toArray, List.set_cons_zero, List.set_cons_succ, i64_w, i32_w]
        rfl
      refine take_ (i := 7) (N := some 28) (v := ?_) (a' := ?_) #[true, true, true, true, true, true, true, true, false, false] rfl rfl (take_ofW HT_.out HW_.out (by kernel_rfl)) (fun _ _ _ h => h) (Or.inl ⟨by rfl, ?_⟩) hHeld ?_ ?_
      rotate_left
      · rintro w' ⟨s0, s1⟩
        have i0 : Holds w' w.heap.size (.cells (lA.map Value.string).toArray 9) := ⟨s0⟩
        have i1 : Holds w' (w.heap.size + 1) (.cells (lB.map Value.string).toArray 9) := ⟨s1⟩
        go_simp
        with_reducible rfl
      rotate_left
      · simp only [Act.put, List.setIfInBounds_toArray, List.set_cons_zero, List.set_cons_succ, i64_w, i32_w]
        rfl
      refine one_ (i := 8) (N := some 29) #[true, true, true, true, true, true, true, true, true, false] rfl rfl (one_of HT_.out (by kernel_rfl)) (by decide) (fun K hK => ?_)
      refine goes_ Tryd.func34 (by kernel_rfl) rfl #[.string lA[k], .string lB[k]] (by rfl) rfl rfl (by (try simp only [List.map_toArray, List.map_cons, List.map_nil]); first | done | rfl) ?_
      refine (HSC.out _).mono ?_
      rintro e1 w1 ⟨rfl, rfl⟩
      refine ⟨_, rfl, ?_⟩
      refine hK.out _ _ ⟨held, held⟩ (fun hHeld => ?_)
      clear hK K
      refine norm_ (a' := ?_) ?_ ?_
      rotate_left
      · show Act.put _ (some 29) _ = _
        simp only [Act.put, List.setIfInBounds_toArray, List.set_cons_zero, List.set_cons_succ, i64_w, i32_w]
        rfl
      refine pure_ (i := 9) (N := some 8) (v := ?_) (a' := ?_) #[true, true, true, true, true, true, true, true, true, true] rfl rfl (any_of HT_.out (by kernel_rfl)) (fun _ _ _ h => h) (Or.inl ⟨by rfl, ?_⟩) ?_ ?_
      rotate_left
      · intro w'
        go_simp
        with_reducible rfl
      rotate_left
      · simp only [Act.put, List.setIfInBounds_toArray, List.set_cons_zero, List.set_cons_succ, i64_w, i32_w]
        rfl
      refine done_ (done_of HT_.out (by kernel_rfl)) ?_
      by_cases h0 : c = 0
      · subst h0
        rw [if_pos rfl] at hR
        have HR' := Aside0.mk hR
        clear hR
        go_wp2_with fail
        go_roundw
        case rel => exact ⟨k + 1, q + 1, by omega, by go_num, HR', ⟨rfl⟩⟩
        case measure => simp [intOf]; omega
      · rw [if_neg h0] at hR
        subst hR
        have hz1 : (c != 0) = true := bne_iff_ne.mpr h0
        have hz2 : (c == 0) = false := beq_eq_false_iff_ne.mpr h0
        go_wp2_with fail
        go_ret
        exact ⟨by rw [HPR.out]; rfl, q + 1, _, two_grow _ _ _ (q + 1)⟩
    · have hR := HR.out
      have he := lex_end Lib.compareBytes (lA.map (·.data.toList)) (lB.map (·.data.toList)) k (by simp only [List.length_map]; omega) (by simp only [List.length_map]; omega) (by simp only [List.length_map]; omega)
      unfold cmpN at hR
      rw [List.map_drop, List.map_drop, he] at hR
      simp only [List.length_map] at hR
      have hic := fun W => intcmp_c W lA.length lB.length
      rw [hR] at hic
      have HIC := Aside0.mk hic
      clear hR he hic HR
      go_wp2_with fail
      refine (HIC.out _).mono ?_
      rintro e w3 ⟨rfl, rfl⟩
      go_wp2_with fail
      go_ret
      exact ⟨by rw [HPR.out]; rfl, q, _, two_grow _ _ _ q⟩
end Go.Proofs.YtdggdmdefmljlaaDoor.Q

namespace Go.Proofs.YtdggdmdefmljlaaDoorK
open Go Go.ChangeMaps Go.MapKept Go.WideShapes Go.WideMaps
/-! A set of strings, kept by a map[string]bool that the call has made: asked by 'm[s]', told by 'm[s] = true'. -/
def isIn (s : ByteArray) (l : List ByteArray) : Bool := l.any fun x => s.data.toList == x.data.toList
theorem isIn_cons (s x : ByteArray) (l : List ByteArray) : isIn s (x :: l) = ((s.data.toList == x.data.toList) || isIn s l) := rfl
section
variable {P : Program} {mt kt et : TypeId}
/-- Block b of W is a map of at most n entries that says true of just the strings of seen. -/
def Seen (P : Program) (kt et : TypeId) (W : World) (b n : Nat) (seen : List ByteArray) : Prop :=
  ∃ D : DataW Unit, W.ownsMap P kt (plainElem P et) b n D ∧ Maps.IsMap D ∧ ∀ s : ByteArray, D.atKey (.string s.data.toList) (.lit (.bool false)) = .lit (.bool (isIn s seen))
theorem seen_made (W : World) : Seen P kt et (W.alloc (.map #[] 0)) W.heap.size 0 [] :=
  ⟨.map [], World.ownsMap_made W P kt _, ⟨[], rfl⟩, fun s => by simp [DataW.atKey, isIn]⟩
theorem seen_mono {W : World} {b n n' : Nat} {l : List ByteArray} (h : Seen P kt et W b n l) (hn : n ≤ n') : Seen P kt et W b n' l := by
  obtain ⟨D, h1, h2, h3⟩ := h
  exact ⟨D, h1.mono hn, h2, h3⟩
theorem seen_block {W W' : World} {b n : Nat} {l : List ByteArray} (h : Seen P kt et W b n l) (hb : W'.heap[b]? = W.heap[b]?) : Seen P kt et W' b n l := by
  obtain ⟨D, ⟨es, clock, g1, g2⟩, h2, h3⟩ := h
  exact ⟨D, ⟨es, clock, hb.trans g1, g2⟩, h2, h3⟩
theorem seen_lt {W : World} {b n : Nat} {l : List ByteArray} (h : Seen P kt et W b n l) : b < W.heap.size := by
  obtain ⟨D, h1, _⟩ := h
  exact h1.lt
theorem seen_is {W : World} {b n : Nat} {l : List ByteArray} (h : Seen P kt et W b n l) : ∃ es clock, W.heap[b]? = some (.map es clock) := by
  obtain ⟨D, ⟨es, clock, g1, _⟩, _⟩ := h
  exact ⟨es, clock, g1⟩
theorem seen_look (hm : P.underlying mt = some (.map kt et)) (hk : P.underlying kt = some .string) (he : P.underlying et = some .bool) (hz : ∀ w, (zeroValue et).run P w = .ok (.bool false) w)
    {W : World} {b n : Nat} {l : List ByteArray} (h : Seen P kt et W b n l) (s : ByteArray) (hs : s.size ≤ maxLen) : (Instr.lookup mt (.map (some b)) (.string s) false).run P W = .ok (.bool (isIn s l)) W := by
  obtain ⟨D, h1, h2, h3⟩ := h
  obtain ⟨v, ps, hrun, hv⟩ := h1.lookup (Maps.string_keyed hk) hm (hz W) (plainElem_bool he false) (keyOf_string_mk hk hs)
  rw [h3 s] at hv
  have hb : v = .bool (isIn s l) := by
    unfold plainElem at hv
    rw [he] at hv
    cases v <;> simp at hv
    rw [hv.1]
  rw [hrun, hb]
theorem seen_put (hm : P.underlying mt = some (.map kt et)) (hk : P.underlying kt = some .string) (he : P.underlying et = some .bool)
    {W : World} {b n : Nat} {l : List ByteArray} (h : Seen P kt et W b n l) (hn : n < maxLen) (s : ByteArray) (hs : s.size ≤ maxLen) :
    ∃ W', (Instr.mapUpdate mt (.map (some b)) (.string s) (.bool true)).run P W = .ok () W' ∧ Seen P kt et W' b (n + 1) (s :: l) ∧ W.grownBy W' (some b) := by
  obtain ⟨D, h1, h2, h3⟩ := h
  have hkey := keyOf_string_mk hk hs
  obtain ⟨W', hrun, r1, r2⟩ := h1.update (Maps.string_keyed hk) hm hn hkey (plainElem_bool he true)
  refine ⟨W', hrun, ⟨_, r1, r1.isMap, fun x => ?_⟩, r2⟩
  by_cases hx : x = s
  · subst hx
    rw [Maps.atKey_put_same h2 (by trivial), isIn_cons]
    simp
  · have hne : (Lit.string x.data.toList) ≠ Lit.string s.data.toList := fun e => hx (by
      injection e with e
      exact ByteArray.ext (Array.ext' e))
    rw [Maps.atKey_put_other hne, h3 x, isIn_cons]
    have hb : (x.data.toList == s.data.toList) = false := beq_eq_false_iff_ne.mpr (fun e => hne (by rw [e]))
    rw [hb, Bool.false_or]
end
section
variable {P : Program} {ops : Array Oper} {rest : List Oper} {o : Oper} {a : Act} {Q : Exit → Act → World → Prop} {W : World}
/-- 'm[s]' at the operation. -/
theorem seen_ask {mt kt et : TypeId} (hgd : o.guard = none) (m x : Operand) (hop : o.op = Op.lookup mt m x false) (hm : P.underlying mt = some (.map kt et)) (hk : P.underlying kt = some .string) (he : P.underlying et = some .bool) (hz : ∀ w, (zeroValue et).run P w = .ok (.bool false) w)
    {b n : Nat} {l : List ByteArray} (h : Seen P kt et W b n l) (s : ByteArray) (hs : s.size ≤ maxLen) (h1 : a.eval m = .map (some b)) (h2 : a.eval x = .string s)
    (hK : wpList P ops Q rest (a.put o.dst (.bool (isIn s l))) W) : wpList P ops Q (o :: rest) a W := by
  refine wpList_plain hgd fun K' hK' => ?_
  have hrun := seen_look hm hk he hz h s hs
  unfold Oper.wp
  simp [execOp, hop, h1, h2, hrun, Result.andThen]
  exact hK' _ _ (by simpa using hK)
/-- 'm[s] = true' at the operation. -/
theorem seen_tell {mt kt et : TypeId} (hgd : o.guard = none) (m x v : Operand) (hop : o.op = Op.mapUpdate mt m x v) (hm : P.underlying mt = some (.map kt et)) (hk : P.underlying kt = some .string) (he : P.underlying et = some .bool)
    {b n : Nat} {l : List ByteArray} (h : Seen P kt et W b n l) (hn : n < maxLen) (s : ByteArray) (hs : s.size ≤ maxLen) (h1 : a.eval m = .map (some b)) (h2 : a.eval x = .string s) (h3 : a.eval v = .bool true)
    (hK : ∀ W', Seen P kt et W' b (n + 1) (s :: l) → W.grownBy W' (some b) → wpList P ops Q rest (a.put o.dst undef) W') : wpList P ops Q (o :: rest) a W := by
  refine wpList_plain hgd fun K' hK' => ?_
  obtain ⟨W', hrun, r1, r2⟩ := seen_put hm hk he h hn s hs
  unfold Oper.wp
  simp [execOp, hop, h1, h2, h3, hrun, Result.andThen]
  exact hK' _ _ (hK W' r1 r2)
end
end Go.Proofs.YtdggdmdefmljlaaDoorK

namespace Go.Proofs.YtdggdmdefmljlaaDoor.Q
open Go Go.Proofs Go.Shelf Go.RowKit Go.Lib Go.Sort Go.Proofs.YtdggdmdefmljlaaDoorP Go.Proofs.YtdggdmdefmljlaaDoorK Go.Proofs.YtdggdmdefmljlaaDoorW.PrintWords Go.Proofs.YtdggdmdefmljlaaDoorW.PrintLast Go.Proofs.YtdggdmdefmljlaaDoorW.PrintMore
set_option linter.unusedSimpArgs false
set_option linter.unusedVariables false
/-! ### lru.Check -/
def badC (c : S35) : Bool := decide (c.f1 < 0) || (decide (4096 < c.f1) || (decide (c.f2 < 0) || decide (1099511627776 < c.f2)))
def goS : List ByteArray → List S35 → Int
  | _, [] => 0
  | seen, c :: l => if (badC c || isIn c.f0 seen) = true then 2 else goS (c.f0 :: seen) l
def checkS (l : List S35) : Int := if 4096 < l.length then 7 else goS [] l
/-- Paths that are no longer than any law's. -/
def short (l : List S35) : Bool := decide (l.length ≤ 1048576) && l.all fun c => decide (c.f0.size ≤ 65536)
def lru_Check.f (l : List S35) : Option Int := if short l = true then some (checkS l) else none
theorem short_mem {l : List S35} (h : short l = true) : l.length ≤ 1048576 ∧ ∀ c ∈ l, c.f0.size ≤ 65536 := by
  unfold short at h
  simp only [Bool.and_eq_true, decide_eq_true_eq, List.all_eq_true] at h
  exact h
abbrev agg35 (x : S35) : Value := .agg #[.string x.f0, .int .i64 x.f1, .int .i64 x.f2, .bool x.f3, .bool x.f4]
def L35 (x : S35) : List Value := [.string x.f0, .int .i64 x.f1, .int .i64 x.f2, .bool x.f3, .bool x.f4]
abbrev A35 (x : S35) : Array Value := #[.string x.f0, .int .i64 x.f1, .int .i64 x.f2, .bool x.f3, .bool x.f4]
abbrev Z35 : Array Value := #[.string ⟨#[]⟩, .int .i64 0, .int .i64 0, .bool false, .bool false]
theorem info35s : (Tryd.prog.info? 35).map (·.size) = some 5 := by kernel_rfl
theorem zero4 (w : World) : (zeroValue 4).run Tryd.prog w = .ok (.bool false) w := by kernel_rfl
theorem C35_at {w : World} {A : Option Addr} {l : List S35} (h : k35.C w A l.length l) (j : Nat) (hj : j < l.length) : ∃ ad, A = some ad ∧ At w (ad.add (j * 5)) (L35 l[j]) := by
  obtain ⟨ad, c, e, _, hK, hc0⟩ := Kd.C_get h z35 (j : Int) (by omega) (by omega)
  obtain rfl := k35_open hK
  refine ⟨ad, e, fun i u hi => ?_⟩
  have e1 : l.getD (j : Int).toNat z35 = l[j] := by simp [hj]
  rw [e1] at hc0
  have h2 := hc0 i u hi
  rw [Int.toNat_natCast] at h2
  rw [Go.Deep.add_add]
  exact h2
theorem At_below {w w' : World} {ad : Addr} {cs : List Value} (h : At w ad cs) (hb : Below w.heap.size w w') : At w' ad cs := fun j u hj => by
  have h1 := h j u hj
  have hlt := World.block_lt_of_cell? _ _ h1
  have h2 := hb.block _ hlt
  unfold World.cell? at h1 ⊢
  rw [h2]
  exact h1
theorem seen_prev {P : Program} {kt et : TypeId} {W W' : World} {T : Go.Proofs.YtdggdmdefmljlaaDoorK.Touch} {b n : Nat} {l : List ByteArray} (h : Seen P kt et W b n l) [p : Prev W' W T] [a : Apart b T] : Seen P kt et W' b n l := seen_block h (p.out.block b (seen_lt h) a.out)
theorem chk_ways (x : S35) (b : Bool) : ((badC x || b) = true ∧ decide (x.f1 < 0) = true) ∨ ((badC x || b) = true ∧ decide (x.f1 < 0) = false ∧ decide (4096 < x.f1) = true) ∨ ((badC x || b) = true ∧ decide (x.f1 < 0) = false ∧ decide (4096 < x.f1) = false ∧ decide (x.f2 < 0) = true)
    ∨ ((badC x || b) = true ∧ decide (x.f1 < 0) = false ∧ decide (4096 < x.f1) = false ∧ decide (x.f2 < 0) = false ∧ decide (1099511627776 < x.f2) = true) ∨ ((badC x || b) = true ∧ decide (x.f1 < 0) = false ∧ decide (4096 < x.f1) = false ∧ decide (x.f2 < 0) = false ∧ decide (1099511627776 < x.f2) = false ∧ b = true)
    ∨ ((badC x || b) = false ∧ decide (x.f1 < 0) = false ∧ decide (4096 < x.f1) = false ∧ decide (x.f2 < 0) = false ∧ decide (1099511627776 < x.f2) = false ∧ b = false) := by
  unfold badC
  cases decide (x.f1 < 0) <;> cases decide (4096 < x.f1) <;> cases decide (x.f2 < 0) <;> cases decide (1099511627776 < x.f2) <;> cases b <;> simp
attribute [local go_sem] cell_held frozen_held
set_option maxRecDepth 100000 in
set_option maxHeartbeats 2000000 in
theorem check_many (w : World) (A : Option Addr) (c : Nat) (l : List S35) (h : 4096 < l.length) :
    Calls Tryd.prog 9 #[.slice A l.length c] w fun e w' => e = .returned (.int .i64 7) ∧ Below w.heap.size w w' := by
  have h1 : decide (4096 < (l.length : Int)) = true := decide_eq_true (by omega)
  go_enter Tryd.func9, Tryd.ntmps9
  go_wp2_with fail
  go_ret
  exact ⟨rfl, bel _ _⟩
set_option maxRecDepth 100000 in
set_option maxHeartbeats 4000000 in
theorem check_go (w : World) (A : Option Addr) (c : Nat) (l : List S35) (hC : k35.C w A l.length l) (hs : short l = true) (h : ¬ 4096 < l.length) (r : Int) (hr : goS [] l = r) :
    Calls Tryd.prog 9 #[.slice A l.length c] w fun e w' => e = .returned (.int .i64 r) ∧ Below w.heap.size w w' := by
  have h1 : decide (4096 < (l.length : Int)) = false := decide_eq_false (by omega)
  have hu35 := Tryd.underlying35
  have hu33 := Tryd.underlying33
  have hu9 := Tryd.underlying9
  have hu4 := Tryd.underlying4
  have HSH := Aside0.mk (short_mem hs).2
  have HC := Aside0.mk hC
  have HR := Aside0.mk hr
  clear hC hs hr
  have hmm := @run_makeMap Tryd.prog
  go_enter Tryd.func9, Tryd.ntmps9
  go_wp2_with fail
  go_loopw [12] (fun i wr => ∃ j : Nat, ∃ seen : List ByteArray, j ≤ l.length ∧ i = .int .i64 (j : Int) ∧ Aside0 (goS seen (l.drop j) = r) ∧ Aside0 (Seen Tryd.prog 9 4 wr w.heap.size j seen) ∧ Aside0 (Below w.heap.size w wr)) (fun i _ => l.length - (intOf i).toNat)
  case atStart => exact ⟨0, [], Nat.zero_le _, rfl, HR, ⟨seen_made _⟩, ⟨bel _ _⟩⟩
  case round =>
    obtain ⟨j, seen, hj, rfl, HI, HS, HB⟩ := hrel
    have pr := prev_above HB.out
    have sb := seen_lt HS.out
    by_cases hlt : j < l.length
    · obtain ⟨ad, e, x0⟩ := C35_at HC.out j hlt
      subst e
      have hd := List.drop_eq_getElem_cons hlt
      have hI := HI.out
      rw [hd] at hI
      have hk := HSH.out _ (List.getElem_mem hlt)
      generalize l[j] = x at x0 hI hk
      simp only [goS] at hI
      have HX := Aside0.mk (At_below x0 HB.out)
      have HK : Aside0 (x.f0.size ≤ maxLen) := ⟨Nat.le_trans hk (by decide)⟩
      have HJ : Aside0 (j < maxLen) := ⟨Nat.lt_of_lt_of_le (show j < 65536 by omega) (by decide)⟩
      clear hd x0 HI hk
      generalize hbi : isIn x.f0 seen = bi at hI
      have HBI := Aside0.mk hbi
      clear hbi
      rcases chk_ways x bi with ⟨hc, z1⟩ | ⟨hc, z1, z2⟩ | ⟨hc, z1, z2, z3⟩ | ⟨hc, z1, z2, z3, z4⟩ | ⟨hc, z1, z2, z3, z4, z5⟩ | ⟨hc, z1, z2, z3, z4, z5⟩
      · rw [hc] at hI
        rw [if_pos rfl] at hI
        subst hI
        clear hc
        go_wp2_with (first
          | ((with_reducible refine gate_dst (N := 15) rfl ?_); refine seg_load rfl 35 (.tmp 14) rfl HX.out (A35 x) rfl rfl hu35 rfl info35s ?_)
          | ((with_reducible refine gate_store (t := 35) (p := 5) rfl ?_); refine box_store rfl rfl 35 (.tmp 5) (.tmp 15) rfl held (A35 x) rfl rfl info35s (by rfl) (by rfl) ?_
             intro w4 hx4 hg4
             have p4 := prev_row hg4
             have h4 : Holds w4 wr.heap.size (.cells (A35 x) 35) := ⟨hx4⟩
             have a4 : Apart w.heap.size (.row wr.heap.size) := apart_ne (by omega)
             have o4 : OwnB w.heap.size (.row wr.heap.size) := own_row (by omega)
             have HS4 := Aside0.mk (seen_prev (W' := w4) (seen_prev (W' := wr.alloc (.cells Z35 35)) HS.out))
             clear hx4 hg4))
        go_ret
        exact ⟨rfl, bel _ _⟩
      · rw [hc] at hI
        rw [if_pos rfl] at hI
        subst hI
        clear hc
        go_wp2_with (first
          | ((with_reducible refine gate_dst (N := 15) rfl ?_); refine seg_load rfl 35 (.tmp 14) rfl HX.out (A35 x) rfl rfl hu35 rfl info35s ?_)
          | ((with_reducible refine gate_store (t := 35) (p := 5) rfl ?_); refine box_store rfl rfl 35 (.tmp 5) (.tmp 15) rfl held (A35 x) rfl rfl info35s (by rfl) (by rfl) ?_
             intro w4 hx4 hg4
             have p4 := prev_row hg4
             have h4 : Holds w4 wr.heap.size (.cells (A35 x) 35) := ⟨hx4⟩
             have a4 : Apart w.heap.size (.row wr.heap.size) := apart_ne (by omega)
             have o4 : OwnB w.heap.size (.row wr.heap.size) := own_row (by omega)
             have HS4 := Aside0.mk (seen_prev (W' := w4) (seen_prev (W' := wr.alloc (.cells Z35 35)) HS.out))
             clear hx4 hg4))
        go_ret
        exact ⟨rfl, bel _ _⟩
      · rw [hc] at hI
        rw [if_pos rfl] at hI
        subst hI
        clear hc
        go_wp2_with (first
          | ((with_reducible refine gate_dst (N := 15) rfl ?_); refine seg_load rfl 35 (.tmp 14) rfl HX.out (A35 x) rfl rfl hu35 rfl info35s ?_)
          | ((with_reducible refine gate_store (t := 35) (p := 5) rfl ?_); refine box_store rfl rfl 35 (.tmp 5) (.tmp 15) rfl held (A35 x) rfl rfl info35s (by rfl) (by rfl) ?_
             intro w4 hx4 hg4
             have p4 := prev_row hg4
             have h4 : Holds w4 wr.heap.size (.cells (A35 x) 35) := ⟨hx4⟩
             have a4 : Apart w.heap.size (.row wr.heap.size) := apart_ne (by omega)
             have o4 : OwnB w.heap.size (.row wr.heap.size) := own_row (by omega)
             have HS4 := Aside0.mk (seen_prev (W' := w4) (seen_prev (W' := wr.alloc (.cells Z35 35)) HS.out))
             clear hx4 hg4))
        go_ret
        exact ⟨rfl, bel _ _⟩
      · rw [hc] at hI
        rw [if_pos rfl] at hI
        subst hI
        clear hc
        go_wp2_with (first
          | ((with_reducible refine gate_dst (N := 15) rfl ?_); refine seg_load rfl 35 (.tmp 14) rfl HX.out (A35 x) rfl rfl hu35 rfl info35s ?_)
          | ((with_reducible refine gate_store (t := 35) (p := 5) rfl ?_); refine box_store rfl rfl 35 (.tmp 5) (.tmp 15) rfl held (A35 x) rfl rfl info35s (by rfl) (by rfl) ?_
             intro w4 hx4 hg4
             have p4 := prev_row hg4
             have h4 : Holds w4 wr.heap.size (.cells (A35 x) 35) := ⟨hx4⟩
             have a4 : Apart w.heap.size (.row wr.heap.size) := apart_ne (by omega)
             have o4 : OwnB w.heap.size (.row wr.heap.size) := own_row (by omega)
             have HS4 := Aside0.mk (seen_prev (W' := w4) (seen_prev (W' := wr.alloc (.cells Z35 35)) HS.out))
             clear hx4 hg4))
        go_ret
        exact ⟨rfl, bel _ _⟩
      · rw [hc] at hI
        rw [if_pos rfl] at hI
        subst hI
        clear hc
        subst z5
        go_wp2_with (first
          | ((with_reducible refine gate_dst (N := 15) rfl ?_); refine seg_load rfl 35 (.tmp 14) rfl HX.out (A35 x) rfl rfl hu35 rfl info35s ?_)
          | ((with_reducible refine gate_store (t := 35) (p := 5) rfl ?_); refine box_store rfl rfl 35 (.tmp 5) (.tmp 15) rfl held (A35 x) rfl rfl info35s (by rfl) (by rfl) ?_
             intro w4 hx4 hg4
             have p4 := prev_row hg4
             have h4 : Holds w4 wr.heap.size (.cells (A35 x) 35) := ⟨hx4⟩
             have a4 : Apart w.heap.size (.row wr.heap.size) := apart_ne (by omega)
             have o4 : OwnB w.heap.size (.row wr.heap.size) := own_row (by omega)
             have HS4 := Aside0.mk (seen_prev (W' := w4) (seen_prev (W' := wr.alloc (.cells Z35 35)) HS.out))
             clear hx4 hg4)
          | ((with_reducible refine gate_dst (N := 38) rfl ?_); refine gate_guard (by rfl) ?_; dsimp only; refine seen_ask rfl (.tmp 35) (.tmp 37) rfl hu33 hu9 hu4 zero4 HS4.out x.f0 HK.out rfl rfl ?_; rw [HBI.out]))
        go_ret
        exact ⟨rfl, bel _ _⟩
      · rw [hc] at hI
        rw [if_neg (by decide)] at hI
        have HI := Aside0.mk hI
        clear hI hc
        subst z5
        go_wp2_with (first
          | ((with_reducible refine gate_dst (N := 15) rfl ?_); refine seg_load rfl 35 (.tmp 14) rfl HX.out (A35 x) rfl rfl hu35 rfl info35s ?_)
          | ((with_reducible refine gate_store (t := 35) (p := 5) rfl ?_); refine box_store rfl rfl 35 (.tmp 5) (.tmp 15) rfl held (A35 x) rfl rfl info35s (by rfl) (by rfl) ?_
             intro w4 hx4 hg4
             have p4 := prev_row hg4
             have h4 : Holds w4 wr.heap.size (.cells (A35 x) 35) := ⟨hx4⟩
             have a4 : Apart w.heap.size (.row wr.heap.size) := apart_ne (by omega)
             have o4 : OwnB w.heap.size (.row wr.heap.size) := own_row (by omega)
             have HS4 := Aside0.mk (seen_prev (W' := w4) (seen_prev (W' := wr.alloc (.cells Z35 35)) HS.out))
             clear hx4 hg4)
          | ((with_reducible refine gate_dst (N := 38) rfl ?_); refine gate_guard (by rfl) ?_; dsimp only; refine seen_ask rfl (.tmp 35) (.tmp 37) rfl hu33 hu9 hu4 zero4 HS4.out x.f0 HK.out rfl rfl ?_; rw [HBI.out])
          | ((with_reducible refine gate_ (Op.mapUpdate 33 (.tmp 40) (.tmp 42) (.const (.bool true))) rfl ?_); refine seen_tell rfl (.tmp 40) (.tmp 42) (.const (.bool true)) rfl hu33 hu9 hu4 HS4.out HJ.out x.f0 HK.out rfl rfl rfl ?_; intro w6 hS6 hg6; have p6 := prev_row hg6; have HS6 := Aside0.mk hS6; clear hS6 hg6))
        go_roundw
        case rel => exact ⟨j + 1, x.f0 :: seen, by omega, by go_num, HI, HS6, ⟨bel _ _⟩⟩
        case measure => simp [intOf]; omega
    · have hI := HI.out
      rw [List.drop_of_length_le (by omega)] at hI
      simp only [goS] at hI
      subst hI
      clear HI
      go_wp2_with fail
      go_ret
      exact ⟨rfl, bel _ _⟩
theorem lru_Check.calls (A : Option Addr) (c : Nat) (l : List S35) (r : Int) (w : World) (hC : Kd.C k35 w A l.length l) (hc : l.length ≤ c) (h : lru_Check.f l = some r) :
    Calls Tryd.prog 9 #[.slice A l.length c] w fun e w' => e = .returned (.int .i64 r) ∧ Below w.heap.size w w' := by
  unfold lru_Check.f at h
  split at h
  · rename_i hs
    injection h with h
    subst h
    unfold checkS
    split
    · rename_i h4
      exact check_many w A c l h4
    · rename_i h4
      exact check_go w A c l hC hs h4 _ rfl
  · simp at h
end Go.Proofs.YtdggdmdefmljlaaDoor.Q

namespace Go.Proofs.YtdggdmdefmljlaaDoorK
open Go Go.RowKit Go.Proofs.YtdggdmdefmljlaaDoorW.PrintWords
/-! A world that came of another one by new blocks and draws alone: what was known there is known here. For printed texts, made shorter. -/
class Up (W W' : World) : Prop where
  out : Below W.heap.size W W'
variable {w W W' : World}
instance : Up W W := ⟨Below.refl _ _⟩
instance [h : Up W W'] (o : Obj) : Up W (W'.alloc o) := ⟨below_alloc h.out o⟩
instance [h : Up W W'] (n : Nat) : Up W (W'.drewN n) := ⟨pw_below_drewN h.out n⟩
instance [h : Up W W'] : Up W W'.drew := ⟨h.out.drew⟩
theorem belU (h : Below w.heap.size w W) [u : Up W W'] : Below w.heap.size w W' := below_step h u.out
theorem sizU (h : Below w.heap.size w W) [u : Up W W'] : w.heap.size ≤ W'.heap.size := (belU h).size
theorem blkU {g : Nat} {o : Obj} (h : W.heap[g]? = some o) [u : Up W W'] : W'.heap[g]? = some o := blk_below h u.out
theorem RU {α : Type} {d : Kd α} {e base : Nat} {ok : Nat → Prop} {v : Value} {xs : List α} (h : d.R e W base ok v xs) [u : Up W W'] : d.R e W' base ok v xs := Kd.R_below h u.out
theorem CU {α : Type} {d : Kd α} {A : Option Addr} {n : Nat} {xs : List α} (h : d.C W A n xs) [u : Up W W'] : d.C W' A n xs := Kd.C_below h u.out
/-- .. and by stores into block g. -/
class UpG (g : Nat) (W W' : World) : Prop where
  out : ∀ w : World, w.heap.size ≤ g → Below w.heap.size w W → Below w.heap.size w W'
instance (g : Nat) : UpG g W W := ⟨fun _ _ h => h⟩
instance (g : Nat) [h : UpG g W W'] (o : Obj) : UpG g W (W'.alloc o) := ⟨fun w a b => below_alloc (h.out w a b) o⟩
instance (g : Nat) [h : UpG g W W'] (n : Nat) : UpG g W (W'.drewN n) := ⟨fun w a b => pw_below_drewN (h.out w a b) n⟩
instance (g : Nat) [h : UpG g W W'] : UpG g W W'.drew := ⟨fun w a b => (h.out w a b).drew⟩
instance (g j : Nat) (v : Value) [h : UpG g W W'] : UpG g W (W'.setCell ⟨g, j, none⟩ v) := ⟨fun w a b => below_set (h.out w a b) a⟩
theorem belG {g : Nat} (h : Below w.heap.size w W) (hg : w.heap.size ≤ g) [u : UpG g W W'] : Below w.heap.size w W' := u.out w hg h
theorem sizG {g : Nat} (h : Below w.heap.size w W) (hg : w.heap.size ≤ g) [u : UpG g W W'] : w.heap.size ≤ W'.heap.size := (belG h hg).size
class UpG2 (g1 g2 : Nat) (W W' : World) : Prop where
  out : ∀ w : World, w.heap.size ≤ g1 → w.heap.size ≤ g2 → Below w.heap.size w W → Below w.heap.size w W'
instance (g1 g2 : Nat) : UpG2 g1 g2 W W := ⟨fun _ _ _ h => h⟩
instance (g1 g2 : Nat) [h : UpG2 g1 g2 W W'] (o : Obj) : UpG2 g1 g2 W (W'.alloc o) := ⟨fun w a1 a2 b => below_alloc (h.out w a1 a2 b) o⟩
instance (g1 g2 : Nat) [h : UpG2 g1 g2 W W'] (n : Nat) : UpG2 g1 g2 W (W'.drewN n) := ⟨fun w a1 a2 b => pw_below_drewN (h.out w a1 a2 b) n⟩
instance (g1 g2 : Nat) [h : UpG2 g1 g2 W W']  : UpG2 g1 g2 W W'.drew := ⟨fun w a1 a2 b => (h.out w a1 a2 b).drew⟩
instance (g1 g2 j : Nat) (v : Value) [h : UpG2 g1 g2 W W'] : UpG2 g1 g2 W (W'.setCell ⟨g1, j, none⟩ v) := ⟨fun w a1 a2 b => below_set (h.out w a1 a2 b) a1⟩
instance (g1 g2 j : Nat) (v : Value) [h : UpG2 g1 g2 W W'] : UpG2 g1 g2 W (W'.setCell ⟨g2, j, none⟩ v) := ⟨fun w a1 a2 b => below_set (h.out w a1 a2 b) a2⟩
theorem belG2 {g1 g2 : Nat} (h : Below w.heap.size w W) (h1 : w.heap.size ≤ g1) (h2 : w.heap.size ≤ g2) [u : UpG2 g1 g2 W W'] : Below w.heap.size w W' := u.out w h1 h2 h
class UpG3 (g1 g2 g3 : Nat) (W W' : World) : Prop where
  out : ∀ w : World, w.heap.size ≤ g1 → w.heap.size ≤ g2 → w.heap.size ≤ g3 → Below w.heap.size w W → Below w.heap.size w W'
instance (g1 g2 g3 : Nat) : UpG3 g1 g2 g3 W W := ⟨fun _ _ _ _ h => h⟩
instance (g1 g2 g3 : Nat) [h : UpG3 g1 g2 g3 W W'] (o : Obj) : UpG3 g1 g2 g3 W (W'.alloc o) := ⟨fun w a1 a2 a3 b => below_alloc (h.out w a1 a2 a3 b) o⟩
instance (g1 g2 g3 : Nat) [h : UpG3 g1 g2 g3 W W'] (n : Nat) : UpG3 g1 g2 g3 W (W'.drewN n) := ⟨fun w a1 a2 a3 b => pw_below_drewN (h.out w a1 a2 a3 b) n⟩
instance (g1 g2 g3 : Nat) [h : UpG3 g1 g2 g3 W W']  : UpG3 g1 g2 g3 W W'.drew := ⟨fun w a1 a2 a3 b => (h.out w a1 a2 a3 b).drew⟩
instance (g1 g2 g3 j : Nat) (v : Value) [h : UpG3 g1 g2 g3 W W'] : UpG3 g1 g2 g3 W (W'.setCell ⟨g1, j, none⟩ v) := ⟨fun w a1 a2 a3 b => below_set (h.out w a1 a2 a3 b) a1⟩
instance (g1 g2 g3 j : Nat) (v : Value) [h : UpG3 g1 g2 g3 W W'] : UpG3 g1 g2 g3 W (W'.setCell ⟨g2, j, none⟩ v) := ⟨fun w a1 a2 a3 b => below_set (h.out w a1 a2 a3 b) a2⟩
instance (g1 g2 g3 j : Nat) (v : Value) [h : UpG3 g1 g2 g3 W W'] : UpG3 g1 g2 g3 W (W'.setCell ⟨g3, j, none⟩ v) := ⟨fun w a1 a2 a3 b => below_set (h.out w a1 a2 a3 b) a3⟩
theorem belG3 {g1 g2 g3 : Nat} (h : Below w.heap.size w W) (h1 : w.heap.size ≤ g1) (h2 : w.heap.size ≤ g2) (h3 : w.heap.size ≤ g3) [u : UpG3 g1 g2 g3 W W'] : Below w.heap.size w W' := u.out w h1 h2 h3 h
/-- .. and by stores into another block than g. -/
class FarG (g g' : Nat) (W W' : World) : Prop where
  out : g ≠ g' → ∀ o : Obj, W.heap[g]? = some o → W'.heap[g]? = some o
instance (g g' : Nat) : FarG g g' W W := ⟨fun _ _ h => h⟩
instance (g g' : Nat) [h : FarG g g' W W'] (o : Obj) : FarG g g' W (W'.alloc o) := ⟨fun n x a => blk_alloc (h.out n x a) o⟩
instance (g g' : Nat) [h : FarG g g' W W'] (n : Nat) : FarG g g' W (W'.drewN n) := ⟨fun m x a => blk_drewN (h.out m x a) n⟩
instance (g g' : Nat) [h : FarG g g' W W'] : FarG g g' W W'.drew := ⟨fun n x a => blk_drew (h.out n x a)⟩
instance (g g' j : Nat) (v : Value) [h : FarG g g' W W'] : FarG g g' W (W'.setCell ⟨g', j, none⟩ v) := ⟨fun n x a => (Below.heap_setCell W' ⟨g', j, none⟩ v g n).trans (h.out n x a)⟩
theorem blkF {g g' : Nat} {o : Obj} (h : W.heap[g]? = some o) (n : g ≠ g') [u : FarG g g' W W'] : W'.heap[g]? = some o := u.out n o h
/-- .. and the cells of block g, stored into one by one. -/
class PutG (g : Nat) (W W' : World) (f : outParam (List Value → List Value)) : Prop where
  out : ∀ (cs : Array Value) (t : TypeId), W.heap[g]? = some (.cells cs t (0, 0)) → W'.heap[g]? = some (.cells (f cs.toList).toArray t (0, 0))
section
variable {f : List Value → List Value}
instance (g : Nat) : PutG g W W (fun cs => cs) := ⟨fun _ _ h => h⟩
instance (g : Nat) [h : PutG g W W' f] (o : Obj) : PutG g W (W'.alloc o) f := ⟨fun cs t a => blk_alloc (h.out cs t a) o⟩
instance (g : Nat) [h : PutG g W W' f] (n : Nat) : PutG g W (W'.drewN n) f := ⟨fun cs t a => blk_drewN (h.out cs t a) n⟩
instance (g : Nat) [h : PutG g W W' f] : PutG g W W'.drew f := ⟨fun cs t a => blk_drew (h.out cs t a)⟩
instance (g j : Nat) (v : Value) [h : PutG g W W' f] : PutG g W (W'.setCell ⟨g, j, none⟩ v) (fun cs => (f cs).set j v) := ⟨fun cs t a => by
  have := blk_set (h.out cs t a) j v
  rwa [List.setIfInBounds_toArray] at this⟩
theorem blkP {g : Nat} {t : TypeId} {cs cs' : Array Value} (h : W.heap[g]? = some (.cells cs t (0, 0))) [u : PutG g W W' f] (e : f cs.toList = cs'.toList) : W'.heap[g]? = some (.cells cs' t (0, 0)) := by
  have := u.out cs t h
  rw [e] at this
  exact this
end
end Go.Proofs.YtdggdmdefmljlaaDoorK

namespace Go.Proofs.YtdggdmdefmljlaaDoor.Q
open Go.RowKit Go.Proofs.YtdggdmdefmljlaaDoorW.PrintWords Go.Proofs.YtdggdmdefmljlaaDoorW.PrintLast Go.Proofs.YtdggdmdefmljlaaDoorW.PrintMore Go.Proofs.YtdggdmdefmljlaaDoorK
attribute [local go_sem] max2_int min2_int max_two min_two max_three min_three max_four min_four   -- for this text's walks alone
attribute [local go_sem ↓] Go.Proofs.YtdggdmdefmljlaaDoorK.isSome_setCell
set_option linter.unusedVariables false
set_option linter.unusedSimpArgs false

/-! ### lru_fixed: function 27 -/
def lru_fixed.f (a0_0 : ByteArray) (a0_1 : Int) (a0_2 : Int) (a0_3 : Bool) (a0_4 : Bool) : Option (Bool) := if a0_3 = true then (some true) else (some a0_4)
set_option maxHeartbeats 8000000 in
set_option maxRecDepth 100000 in
theorem lru_fixed.calls (a0_0 : ByteArray) (a0_1 : Int) (a0_2 : Int) (a0_3 : Bool) (a0_4 : Bool) (r : Bool) (w : World) (h : lru_fixed.f a0_0 a0_1 a0_2 a0_3 a0_4 = some r) :
    Calls Tryd.prog 27 #[.agg #[.string a0_0, .int .i64 a0_1, .int .i64 a0_2, .bool a0_3, .bool a0_4]] w fun e w' => e = .returned (.bool r) ∧ Below w.heap.size w w' := by
  have hu35 := Tryd.underlying35
  have HB := Aside0.mk (Below.refl w.heap.size w)
  have H : (if a0_3 = true then (some true) else (some a0_4)) = some r := h
  clear h
  by_cases c2 : a0_3 = true
  · subst c2
    have H1 : (some true) = some r := by rw [if_pos rfl] at H; exact H
    clear H
    have H := H1
    clear H1
    obtain rfl := Option.some.inj H
    go_enter Tryd.func27, Tryd.ntmps27
    go_wp2_with (first | ((with_reducible refine gate_dst (N := 1) rfl ?_); refine box_event ?hg (N := 1) ?hd (cs := #[.string a0_0, .int .i64 a0_1, .int .i64 a0_2, .bool true, .bool a0_4]) (t := 35) ?hr ?_; (case hd => rfl); (case hg => rfl); (case hr => first | (go_simp; done) | (go_simp; rfl)); intro gb114 hg w3 hbox hb; have n0_ := Aside0.mk (below_step (belU HB.out) hb); have n1_ := Aside0.mk (hbox); have n2_ := Aside0.mk ((by rw [hg]; exact (sizU HB.out) : w.heap.size ≤ gb114)); have n3_ := Aside0.mk ((by rw [hg]; exact (sizU HB.out) : w.heap.size ≤ gb114)); clear HB; have HB := n0_; have BK114 := n1_; have GW114 := n2_; have GE114 := n3_; clear n0_ n1_ n2_ n3_; clear hb hbox hg; have hcz4_0 : w3.cell? ⟨gb114, 0, none⟩ = some (.string a0_0) := (blk_cell BK114.out 0).trans rfl; have hcz4_1 : w3.cell? ⟨gb114, 1, none⟩ = some (.int .i64 a0_1) := (blk_cell BK114.out 1).trans rfl; have hcz4_2 : w3.cell? ⟨gb114, 2, none⟩ = some (.int .i64 a0_2) := (blk_cell BK114.out 2).trans rfl; have hcz4_3 : w3.cell? ⟨gb114, 3, none⟩ = some (.bool true) := (blk_cell BK114.out 3).trans rfl; have hcz4_4 : w3.cell? ⟨gb114, 4, none⟩ = some (.bool a0_4) := (blk_cell BK114.out 4).trans rfl; have hfz4_0 := blk_frozen BK114.out 0; have hfz4_1 := blk_frozen BK114.out 1; have hfz4_2 := blk_frozen BK114.out 2; have hfz4_3 := blk_frozen BK114.out 3; have hfz4_4 := blk_frozen BK114.out 4))
    go_ret
    exact ⟨by first | rfl | (simp [errW_none, errW_some] <;> rfl) | (simp [*, errW_none, errW_some] <;> rfl), belG HB.out GE114.out⟩
  · replace c2 := Bool.eq_false_iff.mpr c2
    subst c2
    have H1 : (some a0_4) = some r := by rw [if_neg (show ¬ (false = true) by decide)] at H; exact H
    clear H
    have H := H1
    clear H1
    obtain rfl := Option.some.inj H
    go_enter Tryd.func27, Tryd.ntmps27
    go_wp2_with (first | ((with_reducible refine gate_dst (N := 1) rfl ?_); refine box_event ?hg (N := 1) ?hd (cs := #[.string a0_0, .int .i64 a0_1, .int .i64 a0_2, .bool false, .bool a0_4]) (t := 35) ?hr ?_; (case hd => rfl); (case hg => rfl); (case hr => first | (go_simp; done) | (go_simp; rfl)); intro gb114 hg w5 hbox hb; have n0_ := Aside0.mk (below_step (belU HB.out) hb); have n1_ := Aside0.mk (hbox); have n2_ := Aside0.mk ((by rw [hg]; exact (sizU HB.out) : w.heap.size ≤ gb114)); have n3_ := Aside0.mk ((by rw [hg]; exact (sizU HB.out) : w.heap.size ≤ gb114)); clear HB; have HB := n0_; have BK114 := n1_; have GW114 := n2_; have GE114 := n3_; clear n0_ n1_ n2_ n3_; clear hb hbox hg; have hcz6_0 : w5.cell? ⟨gb114, 0, none⟩ = some (.string a0_0) := (blk_cell BK114.out 0).trans rfl; have hcz6_1 : w5.cell? ⟨gb114, 1, none⟩ = some (.int .i64 a0_1) := (blk_cell BK114.out 1).trans rfl; have hcz6_2 : w5.cell? ⟨gb114, 2, none⟩ = some (.int .i64 a0_2) := (blk_cell BK114.out 2).trans rfl; have hcz6_3 : w5.cell? ⟨gb114, 3, none⟩ = some (.bool false) := (blk_cell BK114.out 3).trans rfl; have hcz6_4 : w5.cell? ⟨gb114, 4, none⟩ = some (.bool a0_4) := (blk_cell BK114.out 4).trans rfl; have hfz6_0 := blk_frozen BK114.out 0; have hfz6_1 := blk_frozen BK114.out 1; have hfz6_2 := blk_frozen BK114.out 2; have hfz6_3 := blk_frozen BK114.out 3; have hfz6_4 := blk_frozen BK114.out 4))
    go_ret
    exact ⟨by first | rfl | (simp [errW_none, errW_some] <;> rfl) | (simp [*, errW_none, errW_some] <;> rfl), belG HB.out GE114.out⟩

end Go.Proofs.YtdggdmdefmljlaaDoor.Q

namespace Go.Proofs.YtdggdmdefmljlaaDoor.Q
open Go Go.Proofs Go.Shelf Go.RowKit Go.Lib Go.Sort Go.Proofs.YtdggdmdefmljlaaDoorP Go.Proofs.YtdggdmdefmljlaaDoorK Go.Proofs.YtdggdmdefmljlaaDoorW.PrintWords Go.Proofs.YtdggdmdefmljlaaDoorW.PrintLast Go.Proofs.YtdggdmdefmljlaaDoorW.PrintMore
set_option linter.unusedSimpArgs false
set_option linter.unusedVariables false
/-! ### lru.total -/
def sumS (p : S35 → Bool) : Int → List S35 → Int
  | n, [] => n
  | n, c :: l => sumS p (if p c = true then n + c.f1 else n) l
def totalS (p : S35 → Bool) (l : List S35) : Int := if checkS l = 0 then sumS p 0 l else 0
def fixedC (c : S35) : Bool := c.f3 || c.f4
theorem goS_ok (l : List S35) : ∀ seen, goS seen l = 0 → ∀ c ∈ l, 0 ≤ c.f1 ∧ c.f1 ≤ 4096 ∧ 0 ≤ c.f2 ∧ c.f2 ≤ 1099511627776 := by
  induction l with
  | nil => intro _ _ c hc; simp at hc
  | cons a l ih =>
    intro seen h c hc
    simp only [goS] at h
    split at h
    · omega
    · rename_i hb
      simp only [Bool.or_eq_true, not_or, Bool.not_eq_true] at hb
      rcases List.mem_cons.1 hc with rfl | hc
      · have h1 := hb.1
        unfold badC at h1
        simp only [Bool.or_eq_false_iff, decide_eq_false_iff_not] at h1
        omega
      · exact ih _ h c hc
theorem check_ok {l : List S35} (h : checkS l = 0) : l.length ≤ 4096 ∧ ∀ c ∈ l, 0 ≤ c.f1 ∧ c.f1 ≤ 4096 ∧ 0 ≤ c.f2 ∧ c.f2 ≤ 1099511627776 := by
  unfold checkS at h
  split at h
  · omega
  · exact ⟨by omega, goS_ok l [] h⟩
theorem check_c {w : World} {A : Option Addr} {c : Nat} {l : List S35} (hC : k35.C w A l.length l) (hl : l.length ≤ c) (hs : short l = true) :
    Calls Tryd.prog 9 #[.slice A l.length c] w fun e w' => e = .returned (.int .i64 (checkS l)) ∧ Below w.heap.size w w' :=
  lru_Check.calls A c l _ w hC hl (by unfold lru_Check.f; rw [if_pos hs])
attribute [local go_sem] cell_held frozen_held
set_option maxRecDepth 100000 in
set_option maxHeartbeats 2000000 in
theorem total26 (p : S35 → Bool) (hg : ∀ W x, Calls Tryd.prog 26 #[agg35 x] W fun e w' => e = .returned (.bool (p x)) ∧ Below W.heap.size W w')
    (w : World) (A : Option Addr) (c : Nat) (l : List S35) (hC : k35.C w A l.length l) (hl : l.length ≤ c) (hs : short l = true) :
    Calls Tryd.prog 25 #[.slice A l.length c, .func (.func 26) #[] #[]] w fun e w' => e = .returned (.int .i64 (totalS p l)) ∧ Below w.heap.size w w' := by
  have hu35 := Tryd.underlying35
  have hck := fun (W : World) (h : k35.C W A l.length l) => check_c h hl hs
  obtain ⟨q, hq⟩ : ∃ q, checkS l = q := ⟨_, rfl⟩
  rw [hq] at hck
  obtain ⟨r, hr⟩ : ∃ r, totalS p l = r := ⟨_, rfl⟩
  have HT := Aside0.mk hr
  have HCK := Aside0.mk hck
  have HC := Aside0.mk hC
  have HG := Aside0.mk hg
  clear hck hC hg hs
  by_cases h0 : q = 0
  · subst h0
    obtain ⟨hn, hok⟩ := check_ok hq
    have HOK := Aside0.mk hok
    have hR : Aside0 (sumS p 0 l = r) := ⟨by rw [← hr]; unfold totalS; rw [if_pos hq]⟩
    clear hok hr hq
    go_enter Tryd.func25, Tryd.ntmps25
    go_wp2_with fail
    refine (HCK.out _ ?hC).mono ?_
    case hC => exact Kd.C_below HC.out (bel _ _)
    rintro e w1 ⟨rfl, hb⟩
    have p1 := prev_call hb
    clear hb
    go_wp2_with fail
    go_loopw [5, 13] (fun n i wr => ∃ j : Nat, ∃ m : Int, j ≤ l.length ∧ i = .int .i64 (j : Int) ∧ n = .int .i64 m ∧ 0 ≤ m ∧ m ≤ 4096 * j ∧ Aside0 (sumS p m (l.drop j) = r) ∧ Aside0 (Below w.heap.size w wr)) (fun n i _ => l.length - (intOf i).toNat)
    case atStart => exact ⟨0, 0, Nat.zero_le _, rfl, rfl, Int.le_refl _, by omega, hR, ⟨bel _ _⟩⟩
    case round =>
      obtain ⟨j, m, hj, rfl, rfl, hm0, hm1, HI, HB⟩ := hrel
      have pr := prev_above HB.out
      have sb := HB.out.size
      by_cases hlt : j < l.length
      · obtain ⟨ad, e, x0⟩ := C35_at HC.out j hlt
        subst e
        have hd := List.drop_eq_getElem_cons hlt
        have hI := HI.out
        rw [hd] at hI
        have hk := HOK.out _ (List.getElem_mem hlt)
        generalize l[j] = x at x0 hI hk
        simp only [sumS] at hI
        have HX := Aside0.mk (At_below x0 HB.out)
        obtain ⟨k1, k2, _, _⟩ := hk
        clear hd x0 HI
        have hgx := fun W => HG.out W x
        generalize p x = b at hI hgx
        have HGX := Aside0.mk hgx
        clear hgx
        go_wp2_with (first
          | ((with_reducible refine gate_dst (N := 16) rfl ?_); refine seg_load rfl 35 (.tmp 15) rfl HX.out (A35 x) rfl rfl hu35 rfl info35s ?_)
          | ((with_reducible refine gate_store (t := 35) (p := 7) rfl ?_); refine box_store rfl rfl 35 (.tmp 7) (.tmp 16) rfl held (A35 x) rfl rfl info35s (by rfl) (by rfl) ?_
             intro w4 hx4 hg4
             have p4 := prev_row hg4
             have h4 : Holds w4 wr.heap.size (.cells (A35 x) 35) := ⟨hx4⟩
             have o4 : OwnB w.heap.size (.row wr.heap.size) := own_row sb
             clear hx4 hg4)
          | ((with_reducible refine gate_dst (N := 18) rfl ?_); refine box_load rfl 35 (.tmp 7) rfl held rfl hu35 rfl info35s ?_))
        refine (HGX.out _).mono ?_
        rintro e w5 ⟨rfl, hb⟩
        have p5 := prev_call hb
        clear hb
        cases b
        · rw [if_neg (by decide)] at hI
          have HI := Aside0.mk hI
          clear hI
          go_wp2_with fail
          go_roundw
          case rel => exact ⟨j + 1, m, by omega, by go_num, rfl, hm0, by omega, HI, ⟨bel _ _⟩⟩
          case measure => simp [intOf]; omega
        · rw [if_pos rfl] at hI
          have HI := Aside0.mk hI
          clear hI
          go_wp2_with fail
          go_roundw
          case rel => exact ⟨j + 1, m + x.f1, by omega, by go_num, by go_num, by omega, by omega, HI, ⟨bel _ _⟩⟩
          case measure => simp [intOf]; omega
      · have hI := HI.out
        rw [List.drop_of_length_le (by omega)] at hI
        simp only [sumS] at hI
        subst hI
        clear HI
        go_wp2_with fail
        go_ret
        exact ⟨by rw [HT.out]; rfl, bel _ _⟩
  · have hz : totalS p l = 0 := by unfold totalS; rw [if_neg (by omega)]
    have hz1 : (q == 0) = false := beq_eq_false_iff_ne.mpr h0
    have hz2 : (q != 0) = true := bne_iff_ne.mpr h0
    rw [hz]
    clear hr hq hz h0
    go_enter Tryd.func25, Tryd.ntmps25
    go_wp2_with fail
    refine (HCK.out _ ?hC).mono ?_
    case hC => exact Kd.C_below HC.out (bel _ _)
    rintro e w1 ⟨rfl, hb⟩
    have p1 := prev_call hb
    clear hb
    go_wp2_with fail
    go_ret
    exact ⟨rfl, bel _ _⟩
set_option maxRecDepth 100000 in
set_option maxHeartbeats 2000000 in
theorem total27 (p : S35 → Bool) (hg : ∀ W x, Calls Tryd.prog 27 #[agg35 x] W fun e w' => e = .returned (.bool (p x)) ∧ Below W.heap.size W w')
    (w : World) (A : Option Addr) (c : Nat) (l : List S35) (hC : k35.C w A l.length l) (hl : l.length ≤ c) (hs : short l = true) :
    Calls Tryd.prog 25 #[.slice A l.length c, .func (.func 27) #[] #[]] w fun e w' => e = .returned (.int .i64 (totalS p l)) ∧ Below w.heap.size w w' := by
  have hu35 := Tryd.underlying35
  have hck := fun (W : World) (h : k35.C W A l.length l) => check_c h hl hs
  obtain ⟨q, hq⟩ : ∃ q, checkS l = q := ⟨_, rfl⟩
  rw [hq] at hck
  obtain ⟨r, hr⟩ : ∃ r, totalS p l = r := ⟨_, rfl⟩
  have HT := Aside0.mk hr
  have HCK := Aside0.mk hck
  have HC := Aside0.mk hC
  have HG := Aside0.mk hg
  clear hck hC hg hs
  by_cases h0 : q = 0
  · subst h0
    obtain ⟨hn, hok⟩ := check_ok hq
    have HOK := Aside0.mk hok
    have hR : Aside0 (sumS p 0 l = r) := ⟨by rw [← hr]; unfold totalS; rw [if_pos hq]⟩
    clear hok hr hq
    go_enter Tryd.func25, Tryd.ntmps25
    go_wp2_with fail
    refine (HCK.out _ ?hC).mono ?_
    case hC => exact Kd.C_below HC.out (bel _ _)
    rintro e w1 ⟨rfl, hb⟩
    have p1 := prev_call hb
    clear hb
    go_wp2_with fail
    go_loopw [5, 13] (fun n i wr => ∃ j : Nat, ∃ m : Int, j ≤ l.length ∧ i = .int .i64 (j : Int) ∧ n = .int .i64 m ∧ 0 ≤ m ∧ m ≤ 4096 * j ∧ Aside0 (sumS p m (l.drop j) = r) ∧ Aside0 (Below w.heap.size w wr)) (fun n i _ => l.length - (intOf i).toNat)
    case atStart => exact ⟨0, 0, Nat.zero_le _, rfl, rfl, Int.le_refl _, by omega, hR, ⟨bel _ _⟩⟩
    case round =>
      obtain ⟨j, m, hj, rfl, rfl, hm0, hm1, HI, HB⟩ := hrel
      have pr := prev_above HB.out
      have sb := HB.out.size
      by_cases hlt : j < l.length
      · obtain ⟨ad, e, x0⟩ := C35_at HC.out j hlt
        subst e
        have hd := List.drop_eq_getElem_cons hlt
        have hI := HI.out
        rw [hd] at hI
        have hk := HOK.out _ (List.getElem_mem hlt)
        generalize l[j] = x at x0 hI hk
        simp only [sumS] at hI
        have HX := Aside0.mk (At_below x0 HB.out)
        obtain ⟨k1, k2, _, _⟩ := hk
        clear hd x0 HI
        have hgx := fun W => HG.out W x
        generalize p x = b at hI hgx
        have HGX := Aside0.mk hgx
        clear hgx
        go_wp2_with (first
          | ((with_reducible refine gate_dst (N := 16) rfl ?_); refine seg_load rfl 35 (.tmp 15) rfl HX.out (A35 x) rfl rfl hu35 rfl info35s ?_)
          | ((with_reducible refine gate_store (t := 35) (p := 7) rfl ?_); refine box_store rfl rfl 35 (.tmp 7) (.tmp 16) rfl held (A35 x) rfl rfl info35s (by rfl) (by rfl) ?_
             intro w4 hx4 hg4
             have p4 := prev_row hg4
             have h4 : Holds w4 wr.heap.size (.cells (A35 x) 35) := ⟨hx4⟩
             have o4 : OwnB w.heap.size (.row wr.heap.size) := own_row sb
             clear hx4 hg4)
          | ((with_reducible refine gate_dst (N := 18) rfl ?_); refine box_load rfl 35 (.tmp 7) rfl held rfl hu35 rfl info35s ?_))
        refine (HGX.out _).mono ?_
        rintro e w5 ⟨rfl, hb⟩
        have p5 := prev_call hb
        clear hb
        cases b
        · rw [if_neg (by decide)] at hI
          have HI := Aside0.mk hI
          clear hI
          go_wp2_with fail
          go_roundw
          case rel => exact ⟨j + 1, m, by omega, by go_num, rfl, hm0, by omega, HI, ⟨bel _ _⟩⟩
          case measure => simp [intOf]; omega
        · rw [if_pos rfl] at hI
          have HI := Aside0.mk hI
          clear hI
          go_wp2_with fail
          go_roundw
          case rel => exact ⟨j + 1, m + x.f1, by omega, by go_num, by go_num, by omega, by omega, HI, ⟨bel _ _⟩⟩
          case measure => simp [intOf]; omega
      · have hI := HI.out
        rw [List.drop_of_length_le (by omega)] at hI
        simp only [sumS] at hI
        subst hI
        clear HI
        go_wp2_with fail
        go_ret
        exact ⟨by rw [HT.out]; rfl, bel _ _⟩
  · have hz : totalS p l = 0 := by unfold totalS; rw [if_neg (by omega)]
    have hz1 : (q == 0) = false := beq_eq_false_iff_ne.mpr h0
    have hz2 : (q != 0) = true := bne_iff_ne.mpr h0
    rw [hz]
    clear hr hq hz h0
    go_enter Tryd.func25, Tryd.ntmps25
    go_wp2_with fail
    refine (HCK.out _ ?hC).mono ?_
    case hC => exact Kd.C_below HC.out (bel _ _)
    rintro e w1 ⟨rfl, hb⟩
    have p1 := prev_call hb
    clear hb
    go_wp2_with fail
    go_ret
    exact ⟨rfl, bel _ _⟩
theorem all_c (W : World) (x : S35) : Calls Tryd.prog 26 #[agg35 x] W fun e w' => e = .returned (.bool ((fun _ : S35 => true) x)) ∧ Below W.heap.size W w' := by
  have hu35 := Tryd.underlying35
  go_enter Tryd.func26, Tryd.ntmps26
  go_wp2_with fail
  go_ret
  exact ⟨rfl, bel _ _⟩
theorem fixed_c (W : World) (x : S35) : Calls Tryd.prog 27 #[agg35 x] W fun e w' => e = .returned (.bool (fixedC x)) ∧ Below W.heap.size W w' :=
  lru_fixed.calls _ _ _ _ _ _ W (by unfold lru_fixed.f fixedC; cases x.f3 <;> rfl)
def lru_Bytes.f (l : List S35) : Option Int := if short l = true then some (totalS (fun _ => true) l) else none
set_option maxRecDepth 100000 in
theorem lru_Bytes.calls (A : Option Addr) (c : Nat) (l : List S35) (r : Int) (w : World) (hC : Kd.C k35 w A l.length l) (hc : l.length ≤ c) (h : lru_Bytes.f l = some r) :
    Calls Tryd.prog 11 #[.slice A l.length c] w fun e w' => e = .returned (.int .i64 r) ∧ Below w.heap.size w w' := by
  unfold lru_Bytes.f at h
  split at h
  · rename_i hs
    injection h with h
    have ht := total26 (fun _ => true) all_c w A c l hC hc hs
    rw [h] at ht
    have HT := Aside0.mk ht
    clear ht h hs hC hc
    go_enter Tryd.func11, Tryd.ntmps11
    go_wp2_with fail
    refine HT.out.mono ?_
    rintro e w1 ⟨rfl, hb⟩
    have p1 := prev_call hb
    clear hb
    go_wp2_with fail
    go_ret
    exact ⟨rfl, bel _ _⟩
  · simp at h
def lru_Fixed.f (l : List S35) : Option Int := if short l = true then some (totalS fixedC l) else none
set_option maxRecDepth 100000 in
theorem lru_Fixed.calls (A : Option Addr) (c : Nat) (l : List S35) (r : Int) (w : World) (hC : Kd.C k35 w A l.length l) (hc : l.length ≤ c) (h : lru_Fixed.f l = some r) :
    Calls Tryd.prog 13 #[.slice A l.length c] w fun e w' => e = .returned (.int .i64 r) ∧ Below w.heap.size w w' := by
  unfold lru_Fixed.f at h
  split at h
  · rename_i hs
    injection h with h
    have ht := total27 fixedC fixed_c w A c l hC hc hs
    rw [h] at ht
    have HT := Aside0.mk ht
    clear ht h hs hC hc
    go_enter Tryd.func13, Tryd.ntmps13
    go_wp2_with fail
    refine HT.out.mono ?_
    rintro e w1 ⟨rfl, hb⟩
    have p1 := prev_call hb
    clear hb
    go_wp2_with fail
    go_ret
    exact ⟨rfl, bel _ _⟩
  · simp at h
end Go.Proofs.YtdggdmdefmljlaaDoor.Q

namespace Go.Proofs.YtdggdmdefmljlaaDoor.Q
open Go Go.Proofs Go.Shelf Go.RowKit Go.Lib Go.Sort Go.Proofs.YtdggdmdefmljlaaDoorP Go.Proofs.YtdggdmdefmljlaaDoorK Go.Proofs.YtdggdmdefmljlaaDoorW.PrintWords Go.Proofs.YtdggdmdefmljlaaDoorW.PrintLast Go.Proofs.YtdggdmdefmljlaaDoorW.PrintMore
set_option linter.unusedSimpArgs false
set_option linter.unusedVariables false
/-! ### A row of candidates, as the sort sees it -/
abbrev C35 := {x : S35 // x.f0.size ≤ 65536}
instance : Inhabited S35 := ⟨z35⟩
instance : Inhabited C35 := ⟨⟨z35, by decide⟩⟩
def encC (x : C35) : List Value := L35 x.1
theorem L35_len (x : S35) : (L35 x).length = 5 := rfl
/-- What the cells of such a row are. -/
theorem flat_get (d : Array C35) (t : Nat) (ht : t < d.size * 5) : (L35 (d.toList.map (·.1))[t / 5]!)[t % 5]? = some ((flatK encC 5 d)[t]!) := by
  have h5 : t / 5 < d.size := by omega
  have hm : t % 5 < 5 := Nat.mod_lt _ (by decide)
  rw [get_flatK encC 5 d t ht]
  have e : (d.toList.map (·.1))[t / 5]! = (d[t / 5]!).1 := by
    rw [getElem!_pos _ _ (by simpa using h5), getElem!_pos d _ h5]
    simp
  rw [e]
  show (L35 (d[t / 5]!).1)[t % 5]? = some ((L35 (d[t / 5]!).1)[t % 5]!)
  have hq : t % 5 < (L35 (d[t / 5]!).1).length := by rw [L35_len]; exact hm
  rw [List.getElem?_eq_getElem hq, getElem!_pos (L35 (d[t / 5]!).1) (t % 5) hq]
theorem row_open {W : World} {base g n cap : Nat} {xs : List S35} (h : Kd.R k35 35 W base (fun _ => True) (.slice (some ⟨g, 0, none⟩) n cap) xs) :
    n = xs.length ∧ base ≤ g ∧ n ≤ cap ∧ cap ≤ maxLen ∧ ∃ cur, W.heap[g]? = some (.cells cur 35 (0, 0)) ∧ cur.size = cap * 5 ∧ ∀ t, t < n * 5 → cur[t]? = (L35 xs[t / 5]!)[t % 5]? := by
  obtain ⟨_, inner, ⟨hlen, hor⟩, hrep⟩ := h
  rcases hor with ⟨he, _⟩ | ⟨g', cap', cur, he, hb, hg, hnc, hcm, hcs, htk⟩
  · exact absurd he (by simp)
  · simp only [Value.slice.injEq, Option.some.injEq, Addr.mk.injEq, and_true] at he
    obtain ⟨rfl, rfl, rfl⟩ := he
    refine ⟨rfl, hb, hnc, hcm, cur, hg, hcs, fun t ht => ?_⟩
    have h5 : t / 5 < xs.length := by omega
    have hm : t % 5 < 5 := Nat.mod_lt _ (by decide)
    have hp := hrep.2 (t / 5) xs[t / 5] (List.getElem?_eq_getElem h5)
    have hk := k35_open (k35.K_of_M hp)
    have e1 : cur[t]? = inner[t]? := by
      rw [← htk, List.getElem?_take]
      have : t < xs.length * k35.sz := ht
      rw [if_pos this]
      simp
    have e2 : inner[t]? = ((inner.drop (t / 5 * 5)).take 5)[t % 5]? := by
      rw [List.getElem?_take, if_pos hm, List.getElem?_drop]
      congr 1
      omega
    rw [e1, e2]
    have e3 : (inner.drop (t / 5 * 5)).take 5 = L35 xs[t / 5] := hk
    rw [e3, getElem!_pos xs _ h5]
theorem holds_of_R {W : World} {base g n cap : Nat} {xs : List S35} (h : Kd.R k35 35 W base (fun _ => True) (.slice (some ⟨g, 0, none⟩) n cap) xs) (d : Array C35) (hd : d.toList.map (·.1) = xs) : HoldsK encC 5 W g 0 d ∧ g < W.heap.size := by
  obtain ⟨hn, _, _, _, cur, hg, _, hc⟩ := row_open h
  have hs : d.size = xs.length := by rw [← hd]; simp
  refine ⟨fun t ht => ?_, blk_lt hg⟩
  rw [size_flatK] at ht
  refine ⟨?_, ?_⟩
  · rw [blk_cell hg, Nat.zero_add, hc t (by omega), ← hd, flat_get d t ht]
    rfl
  · exact blk_frozen hg _
theorem R_of_sort {W : World} {base g n cap : Nat} {xs : List S35} (h : Kd.R k35 35 W base (fun _ => True) (.slice (some ⟨g, 0, none⟩) n cap) xs) (d d' : Array C35) (hd : d.toList.map (·.1) = xs) (hs : d'.size = d.size) (m : Nat) (os : Array Obj) :
    Kd.R k35 35 (sortWorldK encC 5 W g 0 m d' os) base (fun _ => True) (.slice (some ⟨g, 0, none⟩) n cap) (d'.toList.map (·.1)) ∧ W.grownBy (sortWorldK encC 5 W g 0 m d' os) (some g) := by
  obtain ⟨hn, hb, hnc, hcm, cur, hg, hcs, hc⟩ := row_open h
  have hsz : d.size = xs.length := by rw [← hd]; simp
  have hlt := blk_lt hg
  have hns : n * 5 = d'.size * 5 := by omega
  have hblk : (sortWorldK encC 5 W g 0 m d' os).heap[g]? = some (.cells (putCells id 0 (flatK encC 5 d') cur) 35 (0, 0)) := by
    unfold sortWorldK grow putRowK putRow mapBlock
    simp only
    rw [Array.getElem?_append_left (by simpa [Sort.ahead] using hlt), Array.getElem?_modify]
    simp only [Sort.ahead, if_true, hg, Option.map_some]
    rfl
  have hps : (putCells id 0 (flatK encC 5 d') cur).size = cap * 5 := by
    unfold putCells
    rw [Array.size_mapIdx, hcs]
  have hpc : ∀ t, t < n * 5 → (putCells id 0 (flatK encC 5 d') cur).toList[t]? = (L35 (d'.toList.map (·.1))[t / 5]!)[t % 5]? := by
    intro t ht
    have htc : t < cur.size := by rw [hcs]; have := Nat.mul_le_mul_right 5 hnc; omega
    rw [flat_get d' t (by omega), Array.getElem?_toList]
    unfold putCells
    rw [Array.getElem?_mapIdx, Array.getElem?_eq_getElem htc, Option.map_some, if_pos ⟨Nat.zero_le _, by rw [size_flatK]; omega⟩]
    rfl
  have hln : (d'.toList.map (·.1)).length = n := by simp; omega
  have htl : ((putCells id 0 (flatK encC 5 d') cur).toList.take (n * 5)).length = n * 5 := by
    rw [List.length_take, Array.length_toList, hps]
    have := Nat.mul_le_mul_right 5 hnc
    omega
  refine ⟨⟨fun _ _ => trivial, ?_⟩, ?_⟩
  · refine ⟨(putCells id 0 (flatK encC 5 d') cur).toList.take (n * 5), ⟨by rw [htl, hln]; rfl, .inr ⟨g, cap, putCells id 0 (flatK encC 5 d') cur, by rw [hln], hb, hblk, by rw [hln]; exact hnc, hcm, hps, by rw [hln]; rfl⟩⟩, by rw [htl, hln]; rfl, ?_⟩
    intro j p hp
    have hj : j < n := by
      have := (List.getElem?_eq_some_iff.1 hp).1
      omega
    have e : (((putCells id 0 (flatK encC 5 d') cur).toList.take (n * 5)).drop (j * k35.sz)).take k35.sz = L35 p := by
      apply List.ext_getElem?
      intro i
      show ((((putCells id 0 (flatK encC 5 d') cur).toList.take (n * 5)).drop (j * 5)).take 5)[i]? = _
      rw [List.getElem?_take]
      by_cases hi : i < 5
      · rw [if_pos hi, List.getElem?_drop, List.getElem?_take, if_pos (by omega), hpc _ (by omega)]
        have e1 : (j * 5 + i) / 5 = j := by omega
        have e2 : (j * 5 + i) % 5 = i := by omega
        have e3 : (d'.toList.map (·.1))[j]! = p := by
          have hjl : j < (d'.toList.map (·.1)).length := by omega
          rw [getElem!_pos (d'.toList.map (·.1)) j hjl]
          rw [List.getElem?_eq_getElem hjl] at hp
          exact Option.some.inj hp
        rw [e1, e2, e3]
      · rw [if_neg hi, List.getElem?_eq_none (by rw [L35_len]; omega)]
    rw [e]
    exact k35_mkM _ _ _ p
  · refine ⟨rfl, rfl, rfl, ?_, ?_⟩
    · unfold sortWorldK grow putRowK putRow mapBlock
      simp [Sort.ahead]
    · intro k hk hne
      have hkg : g ≠ k := fun e => hne (by rw [e])
      unfold sortWorldK grow putRowK putRow mapBlock
      simp only
      rw [Array.getElem?_append_left (by simpa [Sort.ahead] using hk), Array.getElem?_modify, if_neg hkg]
      rfl
end Go.Proofs.YtdggdmdefmljlaaDoor.Q

namespace Go.Proofs.YtdggdmdefmljlaaDoorP
open Go Go.Lib Go.Sort Go.Proofs
/-! Orders by keys, and what a sort leaves. -/
theorem good_int : Good Lib.compareInt where
  refl x := by simp [Lib.compareInt]
  eq x y h := by unfold Lib.compareInt at h; split at h <;> (try split at h) <;> omega
  lt x y := by unfold Lib.compareInt; split <;> split <;> (try split) <;> omega
  trans x y z h1 h2 := by
    unfold Lib.compareInt at h1 h2 ⊢
    split at h1 <;> split at h2 <;> (try split at h1) <;> (try split at h2) <;> split <;> (try split) <;> omega
theorem good_pair {α β : Type} {f : α → α → Int} {g : β → β → Int} (hf : Good f) (hg : Good g) : Good (fun x y : α × β => if f x.1 y.1 = 0 then g x.2 y.2 else f x.1 y.1) where
  refl x := by simp only [hf.refl, if_true, hg.refl]
  eq x y h := by
    (try simp only at h)
    split at h
    · rename_i h1
      exact Prod.ext (hf.eq _ _ h1) (hg.eq _ _ h)
    · contradiction
  lt x y := by
    have h1 := hf.lt x.1 y.1
    have h2 := hf.lt y.1 x.1
    have h3 := hg.lt x.2 y.2
    (try simp only)
    by_cases h : f x.1 y.1 = 0
    · rw [if_pos h, if_pos (by omega)]
      exact h3
    · rw [if_neg h, if_neg (by omega)]
      exact h1
  trans x y z h1 h2 := by
    (try simp only at h1 h2 ⊢)
    by_cases e1 : f x.1 y.1 = 0
    · rw [if_pos e1] at h1
      have ex := hf.eq _ _ e1
      rw [ex]
      by_cases e2 : f y.1 z.1 = 0
      · rw [if_pos e2] at h2 ⊢
        exact hg.trans _ _ _ h1 h2
      · rw [if_neg e2] at h2 ⊢
        exact h2
    · rw [if_neg e1] at h1
      by_cases e2 : f y.1 z.1 = 0
      · have ey := hf.eq _ _ e2
        rw [← ey, if_neg e1]
        exact h1
      · rw [if_neg e2] at h2
        have h3 := hf.trans _ _ _ h1 h2
        rw [if_neg (by omega)]
        exact h3
/-- By a key: a strict weak order. -/
theorem swo_key {α β : Type} {g : β → β → Int} (h : Good g) (k : α → β) : SWO (ltOf fun x y : α => g (k x) (k y)) where
  irrefl x := by simp [ltOf, h.refl]
  trans x y z h1 h2 := by
    simp only [ltOf, decide_eq_true_eq] at h1 h2 ⊢
    exact h.trans _ _ _ h1 h2
  ntrans x y z h1 h2 := by
    simp only [ltOf, decide_eq_false_iff_not] at h1 h2 ⊢
    intro h3
    have a1 := h.lt (k x) (k y)
    have a2 := h.lt (k y) (k x)
    have b1 := h.lt (k y) (k z)
    have b2 := h.lt (k z) (k y)
    have c1 := h.lt (k x) (k z)
    have c2 := h.lt (k z) (k x)
    by_cases e1 : g (k x) (k y) = 0
    · rw [h.eq _ _ e1] at h3
      exact h2 h3
    · by_cases e2 : g (k y) (k z) = 0
      · rw [← h.eq _ _ e2] at h3
        exact h1 h3
      · have h4 := h.trans (k z) (k y) (k x) (by omega) (by omega)
        omega
/-- What a sort leaves, as a list. -/
theorem sorted_list {α : Type} [Inhabited α] (lt : α → α → Bool) (d d' : Array α) (hp : PermIn 0 d.size d d') (hs : SortedIn lt 0 d.size d') : d'.toList.Perm d.toList ∧ d'.toList.Pairwise (fun x y => lt y x = false) := by
  obtain ⟨h1, _, h3⟩ := hp
  have e1 : d'.extract 0 d.size = d' := by rw [← h1]; simp
  have e2 : d.extract 0 d.size = d := by simp
  rw [e1, e2] at h3
  refine ⟨h3, ?_⟩
  rw [List.pairwise_iff_getElem]
  intro i j hi hj hij
  have hi' : i < d'.size := by simpa using hi
  have hj' : j < d'.size := by simpa using hj
  have := hs i j (Nat.zero_le _) hij (by omega)
  rw [getElem!_pos d' j hj', getElem!_pos d' i hi'] at this
  simpa using this
/-- Two sorted lists of the same things are one, where no two of them are alike. -/
theorem perm_sorted' {α : Type} (le : α → α → Prop) : ∀ l m : List α, (∀ a ∈ l, ∀ b ∈ l, le a b → le b a → a = b) → l.Perm m → l.Pairwise le → m.Pairwise le → l = m := by
  intro l
  induction l with
  | nil => intro m _ h _ _; exact h.nil_eq
  | cons a l ih =>
    intro m anti h hl hm
    cases m with
    | nil => exact absurd h.symm.nil_eq (by simp)
    | cons b m =>
      have hl' := List.pairwise_cons.1 hl
      have hm' := List.pairwise_cons.1 hm
      have hab : a = b := by
        have h1 : b ∈ a :: l := h.mem_iff.2 (by simp)
        have h2 : a ∈ b :: m := h.mem_iff.1 (by simp)
        rcases List.mem_cons.1 h1 with e | e
        · exact e.symm
        · rcases List.mem_cons.1 h2 with e2 | e2
          · exact e2
          · exact anti a (by simp) b h1 (hl'.1 b e) (hm'.1 a e2)
      subst hab
      rw [ih m (fun x hx y hy => anti x (by simp [hx]) y (by simp [hy])) (List.Perm.cons_inv h) hl'.2 hm'.2]
end Go.Proofs.YtdggdmdefmljlaaDoorP

namespace Go.Proofs.YtdggdmdefmljlaaDoor.Q
open Go Go.Proofs Go.Shelf Go.RowKit Go.Lib Go.Sort Go.Proofs.YtdggdmdefmljlaaDoorP Go.Proofs.YtdggdmdefmljlaaDoorK Go.Proofs.YtdggdmdefmljlaaDoorW.PrintWords Go.Proofs.YtdggdmdefmljlaaDoorW.PrintLast Go.Proofs.YtdggdmdefmljlaaDoorW.PrintMore
set_option linter.unusedSimpArgs false
set_option linter.unusedVariables false
/-! ### The order of candidates -/
def keyC (x : S35) : Int × ByteArray := (x.f2, x.f0)
def cmpK (p q : Int × ByteArray) : Int := if Lib.compareInt p.1 q.1 = 0 then pcmp p.2 q.2 else Lib.compareInt p.1 q.1
theorem good_key : Go.Proofs.YtdggdmdefmljlaaDoorP.Good cmpK := good_pair good_int good_path
def cfC (x y : S35) : Int := cmpK (keyC x) (keyC y)
def leC (x y : S35) : Prop := ¬ cfC y x < 0
instance (x y : S35) : Decidable (leC x y) := inferInstanceAs (Decidable (¬ _))
theorem leC_trans {x y z : S35} (h1 : leC x y) (h2 : leC y z) : leC x z := by
  have := (swo_key good_key keyC).ntrans z y x
  simp only [ltOf, decide_eq_false_iff_not] at this
  exact this h2 h1
theorem leC_total (x y : S35) : leC x y ∨ leC y x := by
  unfold leC cfC
  have h := good_key.lt (keyC x) (keyC y)
  omega
theorem leC_anti {x y : S35} (h1 : leC x y) (h2 : leC y x) : x.f0 = y.f0 := by
  unfold leC cfC at h1 h2
  have a1 := good_key.lt (keyC x) (keyC y)
  have a2 := good_key.lt (keyC y) (keyC x)
  have h := good_key.eq (keyC x) (keyC y) (by omega)
  exact congrArg Prod.snd h
def insC (x : S35) : List S35 → List S35
  | [] => [x]
  | y :: l => if leC x y then x :: y :: l else y :: insC x l
def sortC : List S35 → List S35
  | [] => []
  | x :: l => insC x (sortC l)
theorem insC_perm (x : S35) (l : List S35) : (insC x l).Perm (x :: l) := by
  induction l with
  | nil => exact List.Perm.refl _
  | cons y l ih =>
    unfold insC
    split
    · exact List.Perm.refl _
    · exact (List.Perm.cons y ih).trans (List.Perm.swap x y l)
theorem sortC_perm (l : List S35) : (sortC l).Perm l := by
  induction l with
  | nil => exact List.Perm.refl _
  | cons x l ih => exact (insC_perm x _).trans (List.Perm.cons x ih)
theorem insC_sorted (x : S35) (l : List S35) (h : l.Pairwise leC) : (insC x l).Pairwise leC := by
  induction l with
  | nil => exact List.pairwise_singleton _ _
  | cons y l ih =>
    have h' := List.pairwise_cons.1 h
    unfold insC
    split
    · rename_i hxy
      refine List.pairwise_cons.2 ⟨fun z hz => ?_, h⟩
      rcases List.mem_cons.1 hz with rfl | hz
      · exact hxy
      · exact leC_trans hxy (h'.1 z hz)
    · rename_i hxy
      refine List.pairwise_cons.2 ⟨fun z hz => ?_, ih h'.2⟩
      rcases List.mem_cons.1 ((insC_perm x l).mem_iff.1 hz) with rfl | hz
      · exact (leC_total z y).resolve_left hxy
      · exact h'.1 z hz
theorem sortC_sorted (l : List S35) : (sortC l).Pairwise leC := by
  induction l with
  | nil => exact List.Pairwise.nil
  | cons x l ih => exact insC_sorted x _ ih
/-- No two have one path. -/
def Apart35 (l : List S35) : Prop := l.Pairwise fun a b => a.f0 ≠ b.f0
theorem apart_eq {l : List S35} (h : Apart35 l) : ∀ a ∈ l, ∀ b ∈ l, a.f0 = b.f0 → a = b := by
  induction l with
  | nil => intro a ha; simp at ha
  | cons x l ih =>
    have h' := List.pairwise_cons.1 h
    intro a ha b hb e
    rcases List.mem_cons.1 ha with e1 | ha
    · rcases List.mem_cons.1 hb with e2 | hb
      · rw [e1, e2]
      · rw [e1] at e; exact absurd e (h'.1 b hb)
    · rcases List.mem_cons.1 hb with e2 | hb
      · rw [e2] at e; exact absurd e.symm (h'.1 a ha)
      · exact ih h'.2 a ha b hb e
theorem sort_one {l m : List S35} (h : Apart35 l) (hp : m.Perm l) (hs : m.Pairwise leC) : m = sortC l := by
  refine (perm_sorted' leC (sortC l) m (fun a ha b hb h1 h2 => ?_) ((sortC_perm l).trans hp.symm) (sortC_sorted l) hs).symm
  exact apart_eq h a ((sortC_perm l).mem_iff.1 ha) b ((sortC_perm l).mem_iff.1 hb) (leC_anti h1 h2)
theorem goS_apart (l : List S35) : ∀ seen, goS seen l = 0 → Apart35 l ∧ ∀ c ∈ l, isIn c.f0 seen = false := by
  induction l with
  | nil => intro _ _; exact ⟨List.Pairwise.nil, fun c hc => by simp at hc⟩
  | cons a l ih =>
    intro seen h
    simp only [goS] at h
    split at h
    · omega
    · rename_i hb
      simp only [Bool.or_eq_true, not_or, Bool.not_eq_true] at hb
      obtain ⟨h1, h2⟩ := ih _ h
      refine ⟨List.pairwise_cons.2 ⟨fun b hb' e => ?_, h1⟩, fun c hc => ?_⟩
      · have h3 := h2 b hb'
        rw [isIn_cons, e] at h3
        simp at h3
      · rcases List.mem_cons.1 hc with e | hc
        · rw [e]; exact hb.2
        · have h3 := h2 c hc
          rw [isIn_cons, Bool.or_eq_false_iff] at h3
          exact h3.2
theorem check_apart {l : List S35} (h : checkS l = 0) : Apart35 l := by
  unfold checkS at h
  split at h
  · omega
  · exact (goS_apart l [] h).1
/-! ### The closure -/
theorem box_grow (W : World) (o1 o2 : Obj) (q : Nat) (os : Array Obj) : grow (((W.alloc o1).alloc o2).drewN q) os = grow (W.drewN q) (#[o1, o2] ++ os) := by
  rw [two_grow, grow_grow]
theorem box_grow0 (W : World) (o1 o2 : Obj) : (W.alloc o1).alloc o2 = grow (W.drewN 0) #[o1, o2] := two_grow W o1 o2 0
set_option maxRecDepth 100000 in
set_option maxHeartbeats 1000000 in
theorem ord_c (W : World) (x y : S35) (hx : x.f0.size ≤ 65536) (hy : y.f0.size ≤ 65536) :
    Calls Tryd.prog 29 #[agg35 x, agg35 y] W fun e w' => e = .returned (.int .i64 (cfC x y)) ∧ ∃ q os, w' = grow (W.drewN q) os := by
  have hu35 := Tryd.underlying35
  have hic := fun w => intcmp_c w x.f2 y.f2
  have hpc := fun w => cmp_any w x.f0 y.f0 (by omega) (by omega)
  have hcf : cfC x y = if Lib.compareInt x.f2 y.f2 = 0 then pcmp x.f0 y.f0 else Lib.compareInt x.f2 y.f2 := rfl
  obtain ⟨c, hc⟩ : ∃ c, Lib.compareInt x.f2 y.f2 = c := ⟨_, rfl⟩
  rw [hc] at hic hcf
  rw [hcf]
  have HIC := Aside0.mk hic
  have HPC := Aside0.mk hpc
  clear hic hpc hcf hc hx hy
  by_cases h0 : c = 0
  · subst h0
    rw [if_pos rfl]
    go_enter Tryd.func29, Tryd.ntmps29
    go_wp2_with fail
    refine (HIC.out _).mono ?_
    rintro e w1 ⟨rfl, rfl⟩
    go_wp2_with fail
    refine (HPC.out _).mono ?_
    rintro e w2 ⟨rfl, q, os, rfl⟩
    go_wp2_with fail
    go_ret
    exact ⟨rfl, q, _, box_grow _ _ _ q os⟩
  · rw [if_neg h0]
    have hz1 : (c != 0) = true := bne_iff_ne.mpr h0
    have hz2 : (c == 0) = false := beq_eq_false_iff_ne.mpr h0
    go_enter Tryd.func29, Tryd.ntmps29
    go_wp2_with fail
    refine (HIC.out _).mono ?_
    rintro e w1 ⟨rfl, rfl⟩
    go_wp2_with fail
    go_ret
    exact ⟨rfl, 0, _, box_grow0 _ _ _⟩
theorem lays29 (blk off size : Nat) (w : World) : CmpLays Tryd.prog 29 #[] encC 5 (fun x y : C35 => cfC x.1 y.1) blk off size w :=
  fun _ _ _ _ x y => ord_c _ x.1 y.1 x.2 y.2
theorem swoC : SWO (ltOf fun x y : C35 => cfC x.1 y.1) := swo_key good_key (fun x : C35 => keyC x.1)
/-! ### slices.SortFunc, at a row of the call's own -/
theorem isAgg35 (w : World) : (isAgg 35).run Tryd.prog w = .ok true w := by kernel_rfl
theorem sizeOf35 (w : World) : (Go.sizeOf 35).run Tryd.prog w = .ok 5 w := by kernel_rfl
theorem sort_row {W : World} {base : Nat} {g n cap : Nat} {xs : List S35} (h : Kd.R k35 35 W base (fun _ => True) (.slice (some ⟨g, 0, none⟩) n cap) xs) (hs : short xs = true) :
    Calls Tryd.prog 28 #[.slice (some ⟨g, 0, none⟩) n cap, .func (.func 29) #[] #[]] W fun e w' => e = .returned (.tuple #[]) ∧ ∃ ys, ys.Perm xs ∧ ys.Pairwise leC ∧ Kd.R k35 35 w' base (fun _ => True) (.slice (some ⟨g, 0, none⟩) n cap) ys ∧ W.grownBy w' (some g) := by
  obtain ⟨hl, hsm⟩ := short_mem hs
  obtain ⟨d, hd⟩ : ∃ d : Array C35, d.toList.map (·.1) = xs := ⟨(xs.attach.map fun x => (⟨x.1, hsm x.1 x.2⟩ : C35)).toArray, by simp⟩
  obtain ⟨hH, hblk⟩ := holds_of_R h d hd
  have hsz : d.size = xs.length := by rw [← hd]; simp
  obtain ⟨hn, _⟩ := row_open h
  have eg : ∀ args w, (callFunc 29 args).run Tryd.prog w = .ok (.enter 29 args) w := enters_of Tryd.func29 (by kernel_rfl) rfl
  have hcon := AnyQ.slices_SortFunc laySort 5 isAgg35 sizeOf35 encC (fun _ => rfl) (fun x v hv => by simp [encC, L35] at hv; rcases hv with rfl | rfl | rfl | rfl | rfl <;> rfl) (fun x y : C35 => cfC x.1 y.1) swoC 29 #[] g 0 cap d W eg (lays29 g 0 d.size W) hH hblk (by omega)
  rw [hsz, ← hn] at hcon
  change Calls Tryd.prog 28 _ _ _ at hcon
  refine hcon.mono ?_
  rintro e w' ⟨rfl, d', m, os, hp, hso, rfl⟩
  have hp' : PermIn 0 d.size d d' := by rw [hsz, ← hn]; exact hp
  have hso' : SortedIn (ltOf fun x y : C35 => cfC x.1 y.1) 0 d.size d' := by rw [hsz, ← hn]; exact hso
  obtain ⟨q1, q2⟩ := sorted_list _ d d' hp' hso'
  obtain ⟨r1, r2⟩ := R_of_sort h d d' hd hp'.1 m os
  refine ⟨rfl, d'.toList.map (·.1), ?_, ?_, r1, r2⟩
  · rw [← hd]; exact q1.map _
  · rw [List.pairwise_map]
    refine q2.imp (fun {a b} hab => ?_)
    simp only [ltOf, decide_eq_false_iff_not] at hab
    exact hab
end Go.Proofs.YtdggdmdefmljlaaDoor.Q

namespace Go.Proofs.YtdggdmdefmljlaaDoor.Q
open Go Go.Proofs Go.Shelf Go.RowKit Go.Lib Go.Sort Go.Proofs.YtdggdmdefmljlaaDoorP Go.Proofs.YtdggdmdefmljlaaDoorK Go.Proofs.YtdggdmdefmljlaaDoorW.PrintWords Go.Proofs.YtdggdmdefmljlaaDoorW.PrintLast Go.Proofs.YtdggdmdefmljlaaDoorW.PrintMore
set_option linter.unusedSimpArgs false
set_option linter.unusedVariables false
/-! ### lru.Order -/
def freeL (l : List S35) : List S35 := l.filter fun c => !fixedC c
def orderS (l : List S35) : List S35 := if checkS l = 0 then sortC (freeL l) else []
def lru_Order.f (l : List S35) : Option (List S35) := if short l = true then some (orderS l) else none
theorem R_way {W : World} {base : Nat} {v : Value} {xs : List S35} (h : Kd.R k35 35 W base (fun _ => True) v xs) : (v = .slice none 0 0 ∧ xs = []) ∨ ∃ g n cap, v = .slice (some ⟨g, 0, none⟩) n cap := by
  obtain ⟨_, inner, ⟨_, hor⟩, _⟩ := h
  rcases hor with ⟨he, hn⟩ | ⟨g, cap, cur, he, _⟩
  · exact .inl ⟨he, List.length_eq_zero_iff.1 hn⟩
  · exact .inr ⟨g, _, cap, he⟩
theorem short_free {l : List S35} (h : short l = true) : short (freeL l) = true := by
  obtain ⟨h1, h2⟩ := short_mem h
  unfold short
  simp only [Bool.and_eq_true, decide_eq_true_eq, List.all_eq_true]
  exact ⟨Nat.le_trans (List.length_filter_le _ _) h1, fun c hc => h2 c (List.mem_filter.1 hc).1⟩
theorem sort_any {W : World} {base : Nat} {v : Value} {l : List S35} (hb : base ≤ W.heap.size) (h : Kd.R k35 35 W base (fun _ => True) v (freeL l)) (hs : short l = true) (ha : Apart35 l) :
    Calls Tryd.prog 28 #[v, .func (.func 29) #[] #[]] W fun e w' => e = .returned (.tuple #[]) ∧ Kd.R k35 35 w' base (fun _ => True) v (sortC (freeL l)) ∧ Below base W w' := by
  rcases R_way h with ⟨rfl, he⟩ | ⟨g, n, cap, rfl⟩
  · have hc := AnyF.slices_SortFunc_none { laySort with } none 0 (.func (.func 29) #[] #[]) W
    refine Calls.mono hc ?_
    rintro e w' ⟨rfl, rfl⟩
    rw [he] at h ⊢
    exact ⟨rfl, h, Below.refl _ _⟩
  · obtain ⟨_, hg, _⟩ := row_open h
    refine (sort_row h (short_free hs)).mono ?_
    rintro e w' ⟨rfl, ys, h1, h2, h3, h4⟩
    have e1 : ys = sortC (freeL l) := sort_one (List.Pairwise.filter _ ha) h1 h2
    subst e1
    exact ⟨rfl, h3, ⟨h4.os, h4.tape, h4.output, h4.size, fun k hk => by
      by_cases hlt : k < W.heap.size
      · exact h4.block k hlt (fun e => by injection e with e; omega)
      · omega⟩⟩
theorem below_new (W : World) (o : Obj) : Below W.heap.size W (W.alloc o) := Below.alloc (Below.refl _ _) (Nat.le_refl _) o
theorem below_row {W W' : World} {b0 : Obj} (h : (W.alloc b0).grownBy W' (some W.heap.size)) : Below W.heap.size (W.alloc b0) W' := ⟨h.os, h.tape, h.output, h.size, fun k hk => h.block k (by rw [World.size_alloc]; omega) (fun e => by injection e with e; omega)⟩
theorem rowW {α : Type} {d : Kd α} {e base : Nat} {W W' : World} {v : Value} {xs : List α} (h : d.R e W base (fun _ => True) v xs) (hb : Below W.heap.size W W') : d.R e W' base (fun _ => True) v xs :=
  Kd.R_mono (Kd.R_step (Kd.R_bound h) (fun k hk hlt => hb.block k hlt)) (fun _ _ => trivial)
attribute [local go_sem] cell_held frozen_held
set_option maxRecDepth 100000 in
set_option maxHeartbeats 2000000 in
theorem order_no (w : World) (A : Option Addr) (c : Nat) (l : List S35) (hC : k35.C w A l.length l) (hl : l.length ≤ c) (hs : short l = true) (h : checkS l ≠ 0) :
    Calls Tryd.prog 16 #[.slice A l.length c] w fun e w' => ∃ v, e = .returned v ∧ Kd.R k35 35 w' w.heap.size (fun _ => True) v [] ∧ Below w.heap.size w w' := by
  have hck := fun (W : World) (h : k35.C W A l.length l) => check_c h hl hs
  generalize checkS l = q at h hck
  have hz1 : (q == 0) = false := beq_eq_false_iff_ne.mpr h
  have hz2 : (q != 0) = true := bne_iff_ne.mpr h
  have HCK := Aside0.mk hck
  have HC := Aside0.mk hC
  clear hck hC hs h
  go_enter Tryd.func16, Tryd.ntmps16
  go_wp2_with fail
  refine (HCK.out _ ?hC).mono ?_
  case hC => exact Kd.C_below HC.out (bel _ _)
  rintro e w1 ⟨rfl, hb⟩
  have p1 := prev_call hb
  clear hb
  go_wp2_with fail
  go_ret
  exact ⟨_, rfl, Kd.R_nil _ _ _ _ _, bel _ _⟩
set_option maxRecDepth 100000 in
set_option maxHeartbeats 4000000 in
theorem order_yes (w : World) (A : Option Addr) (c : Nat) (l : List S35) (hC : k35.C w A l.length l) (hl : l.length ≤ c) (hs : short l = true) (h : checkS l = 0) :
    Calls Tryd.prog 16 #[.slice A l.length c] w fun e w' => ∃ v, e = .returned v ∧ Kd.R k35 35 w' w.heap.size (fun _ => True) v (sortC (freeL l)) ∧ Below w.heap.size w w' := by
  have hu35 := Tryd.underlying35
  have hck := fun (W : World) (h : k35.C W A l.length l) => check_c h hl hs
  rw [h] at hck
  have hn := (check_ok h).1
  have hso := fun (W : World) (v : Value) (hb : w.heap.size ≤ W.heap.size) (hr : Kd.R k35 35 W w.heap.size (fun _ => True) v (freeL l)) => sort_any hb hr hs (check_apart h)
  have HSO := Aside0.mk hso
  have HCK := Aside0.mk hck
  have HC := Aside0.mk hC
  clear hck hC hs h hso
  go_enter Tryd.func16, Tryd.ntmps16
  go_wp2_with fail
  refine (HCK.out _ ?hC).mono ?_
  case hC => exact Kd.C_below HC.out (bel _ _)
  rintro e w1 ⟨rfl, hb⟩
  have p1 := prev_call hb
  clear hb
  go_wp2_with fail
  go_loopw [3, 11] (fun u i wr => ∃ j : Nat, ∃ xs : List S35, j ≤ l.length ∧ i = .int .i64 (j : Int) ∧ Aside0 (xs = freeL (l.take j)) ∧ xs.length ≤ j ∧ Aside0 (Kd.R k35 35 wr w.heap.size (fun _ => True) u xs) ∧ Aside0 (Below w.heap.size w wr)) (fun u i _ => l.length - (intOf i).toNat)
  case atStart => exact ⟨0, [], Nat.zero_le _, rfl, ⟨rfl⟩, Nat.le_refl _, ⟨Kd.R_nil _ _ _ _ _⟩, ⟨bel _ _⟩⟩
  case round =>
    obtain ⟨j, xs, hj, rfl, HX0, hxl, HU, HB⟩ := hrel
    have pr := prev_above HB.out
    have sb := HB.out.size
    obtain ⟨A0, c0, rfl⟩ := Kd.R_slice HU.out
    by_cases hlt : j < l.length
    · obtain ⟨ad, e, x0⟩ := C35_at HC.out j hlt
      subst e
      have ht : freeL (l.take (j + 1)) = freeL (l.take j) ++ freeL [l[j]] := by
        unfold freeL
        rw [List.take_succ_eq_append_getElem hlt, List.filter_append]
      rw [← HX0.out] at ht
      generalize l[j] = x at x0 ht
      have HX := Aside0.mk (At_below x0 HB.out)
      have hgx := fun W => fixed_c W x
      have ho4 : OwnB w.heap.size (.row wr.heap.size) := own_row sb
      clear x0
      cases hb : fixedC x
      · rw [hb] at hgx
        have hf : freeL [x] = [x] := by unfold freeL; simp [hb]
        rw [hf] at ht
        have HT := Aside0.mk ht
        have HGX := Aside0.mk hgx
        clear hgx ht hf hb
        go_wp2_with (first
          | ((with_reducible refine gate_dst (N := 14) rfl ?_); refine seg_load rfl 35 (.tmp 13) rfl HX.out (A35 x) rfl rfl hu35 rfl info35s ?_)
          | ((with_reducible refine gate_store (t := 35) (p := 5) rfl ?_); refine box_store rfl rfl 35 (.tmp 5) (.tmp 14) rfl held (A35 x) rfl rfl info35s (by rfl) (by rfl) ?_
             intro w4 hx4 hg4
             have p4 := prev_row hg4
             have h4 : Holds w4 wr.heap.size (.cells (A35 x) 35) := ⟨hx4⟩
             have s4 := hg4.size
             simp only [World.size_alloc] at s4
             have HU4 := Aside0.mk (rowW HU.out (Below.trans (below_new wr (.cells Z35 35)) (below_row hg4)))
             clear hx4 hg4)
          | ((with_reducible refine gate_dst (N := 15) rfl ?_); refine box_load rfl 35 (.tmp 5) rfl held rfl hu35 rfl info35s ?_))
        refine (HGX.out _).mono ?_
        rintro e w5 ⟨rfl, hb⟩
        have p5 := prev_call hb
        have s5 := hb.size
        clear hb
        go_wp2_with (first
          | ((with_reducible refine gate_dst (N := 19) rfl ?_); refine box_load rfl 35 (.tmp 5) rfl held rfl hu35 rfl info35s ?_)
          | ((with_reducible refine gate_builtin (b := .append) (xs := #[.tmp 18, .tmp 20]) rfl ?_); at_builtin; refine Kd.R_append k35 (w0 := w) w.heap.size rfl (.tmp 18) (.tmp 20) 22 35 (.agg Z35) 40 rfl Tryd.underlying22 info35 rfl (by decide) (by decide) (.slice A0 xs.length c0) xs x [.string x.f0, .int .i64 x.f1, .int .i64 x.f2, .bool x.f3, .bool x.f4] (fun _ => True) (fun _ => False) rfl ?aX (k35_mkM _ _ _ x) (fun _ hk => hk.elim) (fun _ _ => trivial) ?aO ?aB ?aS ?aL ?_; (case aX => rfl); (case aO => exact rowK HU4.out); (case aB => exact (inferInstance : Bel w.heap.size w _).out (Nat.le_refl _)); (case aS => omega); (case aL => omega); intro v6 w6 h6 hb6 hg6 hat6; have p6 := prev_above hb6; have HB6 := Aside0.mk hb6; have H6 := Aside0.mk h6; clear hb6 h6 hg6 hat6))
        go_roundw
        case rel => exact ⟨j + 1, xs ++ [x], by omega, by go_num, ⟨HT.out.symm⟩, by simp; omega, H6, HB6⟩
        case measure => simp [intOf]; omega
      · rw [hb] at hgx
        have hf : freeL [x] = [] := by unfold freeL; simp [hb]
        rw [hf] at ht
        have HT := Aside0.mk ht
        have HGX := Aside0.mk hgx
        clear hgx ht hf hb
        go_wp2_with (first
          | ((with_reducible refine gate_dst (N := 14) rfl ?_); refine seg_load rfl 35 (.tmp 13) rfl HX.out (A35 x) rfl rfl hu35 rfl info35s ?_)
          | ((with_reducible refine gate_store (t := 35) (p := 5) rfl ?_); refine box_store rfl rfl 35 (.tmp 5) (.tmp 14) rfl held (A35 x) rfl rfl info35s (by rfl) (by rfl) ?_
             intro w4 hx4 hg4
             have p4 := prev_row hg4
             have h4 : Holds w4 wr.heap.size (.cells (A35 x) 35) := ⟨hx4⟩
             have s4 := hg4.size
             simp only [World.size_alloc] at s4
             have HU4 := Aside0.mk (rowW HU.out (Below.trans (below_new wr (.cells Z35 35)) (below_row hg4)))
             clear hx4 hg4)
          | ((with_reducible refine gate_dst (N := 15) rfl ?_); refine box_load rfl 35 (.tmp 5) rfl held rfl hu35 rfl info35s ?_))
        refine (HGX.out _).mono ?_
        rintro e w5 ⟨rfl, hb⟩
        have p5 := prev_call hb
        have s5 := hb.size
        clear hb
        go_wp2_with fail
        go_roundw
        case rel => exact ⟨j + 1, xs, by omega, by go_num, ⟨by rw [HT.out, List.append_nil]⟩, by omega, ⟨rowK HU4.out⟩, ⟨bel _ _⟩⟩
        case measure => simp [intOf]; omega
    · have hu := HU.out
      have hx := HX0.out
      rw [List.take_of_length_le (by omega)] at hx
      rw [hx] at hu
      have hsr := HSO.out wr _ sb hu
      rw [← hx] at hsr
      have HSR := Aside0.mk hsr
      have HXE := Aside0.mk hx
      clear hu hx hsr HX0
      go_wp2_with fail
      refine HSR.out.mono ?_
      rintro e w7 ⟨rfl, hr, hb⟩
      have p7 := prev_above hb
      have HR7 := Aside0.mk hr
      clear hb hr
      go_wp2_with fail
      go_ret
      exact ⟨.slice A0 xs.length c0, rfl, by rw [← HXE.out]; exact HR7.out, bel _ _⟩
theorem lru_Order.calls (A : Option Addr) (c : Nat) (l : List S35) (r : List S35) (w : World) (hC : Kd.C k35 w A l.length l) (hc : l.length ≤ c) (h : lru_Order.f l = some r) :
    Calls Tryd.prog 16 #[.slice A l.length c] w fun e w' => ∃ v, e = .returned v ∧ Kd.R k35 35 w' w.heap.size (fun _ => True) v r ∧ Below w.heap.size w w' := by
  unfold lru_Order.f at h
  split at h
  · rename_i hs
    injection h with h
    subst h
    unfold orderS
    split
    · rename_i h0
      exact order_yes w A c l hC hc hs h0
    · rename_i h0
      exact order_no w A c l hC hc hs h0
  · simp at h
end Go.Proofs.YtdggdmdefmljlaaDoor.Q

namespace Go.Proofs.YtdggdmdefmljlaaDoor.Q
open Go Go.Proofs Go.Shelf Go.RowKit Go.Lib Go.Sort Go.Proofs.YtdggdmdefmljlaaDoorP Go.Proofs.YtdggdmdefmljlaaDoorK Go.Proofs.YtdggdmdefmljlaaDoorW.PrintWords Go.Proofs.YtdggdmdefmljlaaDoorW.PrintLast Go.Proofs.YtdggdmdefmljlaaDoorW.PrintMore
set_option linter.unusedSimpArgs false
set_option linter.unusedVariables false
/-! ### lru.Victims, lru.Spare -/
def boundB (q : Int) : Bool := decide (0 ≤ q) && decide (q ≤ 4611686018427387904)
def vicGo (quota : Int) : Int → List S35 → List ByteArray
  | _, [] => []
  | m, c :: l => if m ≤ quota then [] else c.f0 :: vicGo quota (m - c.f1) l
def victimsS (l : List S35) (quota need : Int) : List ByteArray × Int :=
  if checkS l ≠ 0 then ([], checkS l) else if boundB quota = false ∨ need < 0 ∨ 4096 < need then ([], 2) else if quota < totalS fixedC l + need then ([], 17) else (vicGo quota (totalS (fun _ => true) l + need) (orderS l), 0)
def lru_Victims.f (l : List S35) (quota need : Int) : Option (List ByteArray × Int) := if short l = true then some (victimsS l quota need) else none
def spareS (l : List S35) (quota : Int) : Int := if checkS l ≠ 0 ∨ boundB quota = false then 0 else if quota ≤ totalS fixedC l then 0 else if 4096 < quota - totalS fixedC l then 4096 else quota - totalS fixedC l
def lru_Spare.f (l : List S35) (quota : Int) : Option Int := if short l = true then some (spareS l quota) else none
theorem sumS_range (p : S35 → Bool) (l : List S35) : ∀ n : Int, (∀ c ∈ l, 0 ≤ c.f1 ∧ c.f1 ≤ 4096) → n ≤ sumS p n l ∧ sumS p n l ≤ n + 4096 * l.length := by
  induction l with
  | nil => intro n _; simp [sumS]
  | cons c l ih =>
    intro n h
    have hc := h c (by simp)
    simp only [sumS, List.length_cons]
    have h2 := ih (if p c = true then n + c.f1 else n) (fun d hd => h d (by simp [hd]))
    by_cases hp : p c = true
    · rw [if_pos hp] at h2 ⊢
      omega
    · rw [if_neg hp] at h2 ⊢
      omega
theorem total_range (p : S35 → Bool) (l : List S35) (h : checkS l = 0) : 0 ≤ totalS p l ∧ totalS p l ≤ 16777216 := by
  obtain ⟨h1, h2⟩ := check_ok h
  have h3 := sumS_range p l 0 (fun c hc => ⟨(h2 c hc).1, (h2 c hc).2.1⟩)
  unfold totalS
  rw [if_pos h]
  omega
theorem order_mem {l : List S35} (h : checkS l = 0) : (orderS l).length ≤ 4096 ∧ ∀ c ∈ orderS l, 0 ≤ c.f1 ∧ c.f1 ≤ 4096 := by
  obtain ⟨h1, h2⟩ := check_ok h
  unfold orderS
  rw [if_pos h]
  have hp := sortC_perm (freeL l)
  refine ⟨?_, fun c hc => ?_⟩
  · rw [hp.length_eq]
    exact Nat.le_trans (List.length_filter_le _ _) h1
  · have hm := (List.mem_filter.1 (hp.mem_iff.1 hc)).1
    exact ⟨(h2 c hm).1, (h2 c hm).2.1⟩
set_option maxRecDepth 100000 in
theorem bound_c (W : World) (q : Int) : Calls Tryd.prog 32 #[.int .i64 q] W fun e w' => e = .returned (.bool (boundB q)) ∧ Below W.heap.size W w' := by
  unfold boundB
  by_cases h1 : 0 ≤ q
  · have d1 : decide (0 ≤ q) = true := decide_eq_true h1
    rw [d1, Bool.true_and]
    go_enter Tryd.func32, Tryd.ntmps32
    go_wp2_with fail
    go_ret
    exact ⟨rfl, bel _ _⟩
  · have d1 : decide (0 ≤ q) = false := decide_eq_false h1
    rw [d1, Bool.false_and]
    go_enter Tryd.func32, Tryd.ntmps32
    go_wp2_with fail
    go_ret
    exact ⟨rfl, bel _ _⟩
theorem bytes_c {w : World} {A : Option Addr} {c : Nat} {l : List S35} (hC : k35.C w A l.length l) (hl : l.length ≤ c) (hs : short l = true) :
    Calls Tryd.prog 11 #[.slice A l.length c] w fun e w' => e = .returned (.int .i64 (totalS (fun _ => true) l)) ∧ Below w.heap.size w w' :=
  lru_Bytes.calls A c l _ w hC hl (by unfold lru_Bytes.f; rw [if_pos hs])
theorem fixedL_c {w : World} {A : Option Addr} {c : Nat} {l : List S35} (hC : k35.C w A l.length l) (hl : l.length ≤ c) (hs : short l = true) :
    Calls Tryd.prog 13 #[.slice A l.length c] w fun e w' => e = .returned (.int .i64 (totalS fixedC l)) ∧ Below w.heap.size w w' :=
  lru_Fixed.calls A c l _ w hC hl (by unfold lru_Fixed.f; rw [if_pos hs])
theorem order_c {w : World} {A : Option Addr} {c : Nat} {l : List S35} (hC : k35.C w A l.length l) (hl : l.length ≤ c) (hs : short l = true) :
    Calls Tryd.prog 16 #[.slice A l.length c] w fun e w' => ∃ v, e = .returned v ∧ Kd.R k35 35 w' w.heap.size (fun _ => True) v (orderS l) ∧ Below w.heap.size w w' :=
  lru_Order.calls A c l _ w hC hl (by unfold lru_Order.f; rw [if_pos hs])
attribute [local go_sem] cell_held frozen_held
set_option maxRecDepth 100000 in
set_option maxHeartbeats 4000000 in
theorem vic_no (w : World) (A : Option Addr) (c : Nat) (l : List S35) (quota need : Int) (hC : k35.C w A l.length l) (hl : l.length ≤ c) (hs : short l = true) (h : checkS l ≠ 0) :
    Calls Tryd.prog 19 #[.slice A l.length c, .int .i64 quota, .int .i64 need] w fun e w' => ∃ v, e = .returned (.tuple #[v, .int .i64 (checkS l)]) ∧ Kd.R Kd.string 9 w' w.heap.size (fun _ => True) v [] ∧ Below w.heap.size w w' := by
  have hck := fun (W : World) (h : k35.C W A l.length l) => check_c h hl hs
  generalize checkS l = q at h hck
  have hz1 : (q == 0) = false := beq_eq_false_iff_ne.mpr h
  have hz2 : (q != 0) = true := bne_iff_ne.mpr h
  have HCK := Aside0.mk hck
  have HC := Aside0.mk hC
  clear hck hC hs h
  go_enter Tryd.func19, Tryd.ntmps19
  go_wp2_with fail
  refine (HCK.out _ ?hC).mono ?_
  case hC => exact Kd.C_below HC.out (bel _ _)
  rintro e w1 ⟨rfl, hb⟩
  have p1 := prev_call hb
  clear hb
  go_wp2_with fail
  go_ret2
  exact ⟨_, rfl, Kd.R_nil _ _ _ _ _, bel _ _⟩
set_option maxRecDepth 100000 in
set_option maxHeartbeats 4000000 in
theorem vic_arg1 (w : World) (A : Option Addr) (c : Nat) (l : List S35) (quota need : Int) (hC : k35.C w A l.length l) (hl : l.length ≤ c) (hs : short l = true) (h : checkS l = 0) (hb : boundB quota = false) :
    Calls Tryd.prog 19 #[.slice A l.length c, .int .i64 quota, .int .i64 need] w fun e w' => ∃ v, e = .returned (.tuple #[v, .int .i64 2]) ∧ Kd.R Kd.string 9 w' w.heap.size (fun _ => True) v [] ∧ Below w.heap.size w w' := by
  have hck := fun (W : World) (h : k35.C W A l.length l) => check_c h hl hs
  rw [h] at hck
  have HCK := Aside0.mk hck
  have HC := Aside0.mk hC
  have hbd := fun W => bound_c W quota
  rw [hb] at hbd
  have HBD := Aside0.mk hbd
  clear hck hC hs h hb hbd
  go_enter Tryd.func19, Tryd.ntmps19
  go_wp2_with fail
  refine (HCK.out _ ?hC).mono ?_
  case hC => exact Kd.C_below HC.out (bel _ _)
  rintro e w1 ⟨rfl, hb⟩
  have p1 := prev_call hb
  clear hb
  go_wp2_with fail
  refine (HBD.out _).mono ?_
  rintro e w2 ⟨rfl, hb⟩
  have p2 := prev_call hb
  clear hb
  go_wp2_with fail
  go_ret2
  exact ⟨_, rfl, Kd.R_nil _ _ _ _ _, bel _ _⟩
set_option maxRecDepth 100000 in
set_option maxHeartbeats 4000000 in
theorem vic_arg2 (w : World) (A : Option Addr) (c : Nat) (l : List S35) (quota need : Int) (hC : k35.C w A l.length l) (hl : l.length ≤ c) (hs : short l = true) (h : checkS l = 0) (hb : boundB quota = true) (hn : need < 0) :
    Calls Tryd.prog 19 #[.slice A l.length c, .int .i64 quota, .int .i64 need] w fun e w' => ∃ v, e = .returned (.tuple #[v, .int .i64 2]) ∧ Kd.R Kd.string 9 w' w.heap.size (fun _ => True) v [] ∧ Below w.heap.size w w' := by
  have hck := fun (W : World) (h : k35.C W A l.length l) => check_c h hl hs
  rw [h] at hck
  have HCK := Aside0.mk hck
  have HC := Aside0.mk hC
  have hbd := fun W => bound_c W quota
  rw [hb] at hbd
  have HBD := Aside0.mk hbd
  have d1 : decide (need < 0) = true := decide_eq_true hn
  clear hck hC hs h hb hbd hn
  go_enter Tryd.func19, Tryd.ntmps19
  go_wp2_with fail
  refine (HCK.out _ ?hC).mono ?_
  case hC => exact Kd.C_below HC.out (bel _ _)
  rintro e w1 ⟨rfl, hb⟩
  have p1 := prev_call hb
  clear hb
  go_wp2_with fail
  refine (HBD.out _).mono ?_
  rintro e w2 ⟨rfl, hb⟩
  have p2 := prev_call hb
  clear hb
  go_wp2_with fail
  go_ret2
  exact ⟨_, rfl, Kd.R_nil _ _ _ _ _, bel _ _⟩
set_option maxRecDepth 100000 in
set_option maxHeartbeats 4000000 in
theorem vic_arg3 (w : World) (A : Option Addr) (c : Nat) (l : List S35) (quota need : Int) (hC : k35.C w A l.length l) (hl : l.length ≤ c) (hs : short l = true) (h : checkS l = 0) (hb : boundB quota = true) (hn : ¬ need < 0) (hm : 4096 < need) :
    Calls Tryd.prog 19 #[.slice A l.length c, .int .i64 quota, .int .i64 need] w fun e w' => ∃ v, e = .returned (.tuple #[v, .int .i64 2]) ∧ Kd.R Kd.string 9 w' w.heap.size (fun _ => True) v [] ∧ Below w.heap.size w w' := by
  have hck := fun (W : World) (h : k35.C W A l.length l) => check_c h hl hs
  rw [h] at hck
  have HCK := Aside0.mk hck
  have HC := Aside0.mk hC
  have hbd := fun W => bound_c W quota
  rw [hb] at hbd
  have HBD := Aside0.mk hbd
  have d1 : decide (need < 0) = false := decide_eq_false hn
  have d2 : decide (4096 < need) = true := decide_eq_true hm
  clear hck hC hs h hb hbd hn hm
  go_enter Tryd.func19, Tryd.ntmps19
  go_wp2_with fail
  refine (HCK.out _ ?hC).mono ?_
  case hC => exact Kd.C_below HC.out (bel _ _)
  rintro e w1 ⟨rfl, hb⟩
  have p1 := prev_call hb
  clear hb
  go_wp2_with fail
  refine (HBD.out _).mono ?_
  rintro e w2 ⟨rfl, hb⟩
  have p2 := prev_call hb
  clear hb
  go_wp2_with fail
  go_ret2
  exact ⟨_, rfl, Kd.R_nil _ _ _ _ _, bel _ _⟩
set_option maxRecDepth 100000 in
set_option maxHeartbeats 4000000 in
theorem vic_quota (w : World) (A : Option Addr) (c : Nat) (l : List S35) (quota need : Int) (hC : k35.C w A l.length l) (hl : l.length ≤ c) (hs : short l = true) (h : checkS l = 0) (hb : boundB quota = true) (hn : 0 ≤ need) (hm : need ≤ 4096) (hq : quota < totalS fixedC l + need) :
    Calls Tryd.prog 19 #[.slice A l.length c, .int .i64 quota, .int .i64 need] w fun e w' => ∃ v, e = .returned (.tuple #[v, .int .i64 17]) ∧ Kd.R Kd.string 9 w' w.heap.size (fun _ => True) v [] ∧ Below w.heap.size w w' := by
  have hck := fun (W : World) (h : k35.C W A l.length l) => check_c h hl hs
  rw [h] at hck
  have HCK := Aside0.mk hck
  have HC := Aside0.mk hC
  have hbd := fun W => bound_c W quota
  rw [hb] at hbd
  have HBD := Aside0.mk hbd
  obtain ⟨t1, t2⟩ := total_range fixedC l h
  have hfx := fun (W : World) (h : k35.C W A l.length l) => fixedL_c h hl hs
  obtain ⟨tf, htf⟩ : ∃ tf, totalS fixedC l = tf := ⟨_, rfl⟩
  rw [htf] at t1 t2 hfx hq
  have HFX := Aside0.mk hfx
  have d1 : decide (need < 0) = false := decide_eq_false (by omega)
  have d2 : decide (4096 < need) = false := decide_eq_false (by omega)
  have d3 : decide (quota < tf + need) = true := decide_eq_true hq
  clear hck hC hs h hb hbd hfx htf
  go_enter Tryd.func19, Tryd.ntmps19
  go_wp2_with fail
  refine (HCK.out _ ?hC).mono ?_
  case hC => exact Kd.C_below HC.out (bel _ _)
  rintro e w1 ⟨rfl, hb⟩
  have p1 := prev_call hb
  clear hb
  go_wp2_with fail
  refine (HBD.out _).mono ?_
  rintro e w2 ⟨rfl, hb⟩
  have p2 := prev_call hb
  clear hb
  go_wp2_with fail
  refine (HFX.out _ ?hC).mono ?_
  case hC => exact Kd.C_below HC.out (bel _ _)
  rintro e w3 ⟨rfl, hb⟩
  have p3 := prev_call hb
  clear hb
  go_wp2_with fail
  go_ret2
  exact ⟨_, rfl, Kd.R_nil _ _ _ _ _, bel _ _⟩
set_option maxRecDepth 100000 in
set_option maxHeartbeats 4000000 in
theorem vic_yes (w : World) (A : Option Addr) (c : Nat) (l : List S35) (quota need : Int) (hC : k35.C w A l.length l) (hl : l.length ≤ c) (hs : short l = true) (h : checkS l = 0) (hb : boundB quota = true) (hn : 0 ≤ need) (hm : need ≤ 4096) (hq : ¬ quota < totalS fixedC l + need) :
    Calls Tryd.prog 19 #[.slice A l.length c, .int .i64 quota, .int .i64 need] w fun e w' => ∃ v, e = .returned (.tuple #[v, .int .i64 0]) ∧ Kd.R Kd.string 9 w' w.heap.size (fun _ => True) v (vicGo quota (totalS (fun _ => true) l + need) (orderS l)) ∧ Below w.heap.size w w' := by
  obtain ⟨r, hr⟩ : ∃ r, vicGo quota (totalS (fun _ => true) l + need) (orderS l) = r := ⟨_, rfl⟩
  rw [hr]
  have hu35 := Tryd.underlying35
  obtain ⟨b1, b2⟩ := total_range (fun _ => true) l h
  have hby := fun (W : World) (h : k35.C W A l.length l) => bytes_c h hl hs
  have hor := fun (W : World) (h : k35.C W A l.length l) => order_c h hl hs
  obtain ⟨ol, om⟩ := order_mem h
  generalize totalS (fun _ => true) l = tb at b1 b2 hby hr
  generalize orderS l = ord at hor ol om hr
  have HBY := Aside0.mk hby
  have HOR := Aside0.mk hor
  have HOM := Aside0.mk om
  have HRR := Aside0.mk hr
  have hck := fun (W : World) (h : k35.C W A l.length l) => check_c h hl hs
  rw [h] at hck
  have HCK := Aside0.mk hck
  have HC := Aside0.mk hC
  have hbd := fun W => bound_c W quota
  rw [hb] at hbd
  have HBD := Aside0.mk hbd
  obtain ⟨t1, t2⟩ := total_range fixedC l h
  have hfx := fun (W : World) (h : k35.C W A l.length l) => fixedL_c h hl hs
  obtain ⟨tf, htf⟩ : ∃ tf, totalS fixedC l = tf := ⟨_, rfl⟩
  rw [htf] at t1 t2 hfx hq
  have HFX := Aside0.mk hfx
  have d1 : decide (need < 0) = false := decide_eq_false (by omega)
  have d2 : decide (4096 < need) = false := decide_eq_false (by omega)
  have d3 : decide (quota < tf + need) = false := decide_eq_false hq
  clear hck hC hs h hb hbd hfx htf hby hor om hr
  go_enter Tryd.func19, Tryd.ntmps19
  go_wp2_with fail
  refine (HCK.out _ ?hC).mono ?_
  case hC => exact Kd.C_below HC.out (bel _ _)
  rintro e w1 ⟨rfl, hb⟩
  have p1 := prev_call hb
  clear hb
  go_wp2_with fail
  refine (HBD.out _).mono ?_
  rintro e w2 ⟨rfl, hb⟩
  have p2 := prev_call hb
  clear hb
  go_wp2_with fail
  refine (HFX.out _ ?hC).mono ?_
  case hC => exact Kd.C_below HC.out (bel _ _)
  rintro e w3 ⟨rfl, hb⟩
  have p3 := prev_call hb
  clear hb
  go_wp2_with fail
  refine (HBY.out _ ?hC).mono ?_
  case hC => exact Kd.C_below HC.out (bel _ _)
  rintro e w4 ⟨rfl, hb⟩
  have p4 := prev_call hb
  clear hb
  go_wp2_with fail
  refine (HOR.out _ ?hC).mono ?_
  case hC => exact Kd.C_below HC.out (bel _ _)
  rintro e w5 ⟨v, rfl, hv, hb⟩
  have p5 := prev_call hb
  obtain ⟨A0, c0, rfl⟩ := Kd.R_slice hv
  have HO := Aside0.mk (Kd.R_reads' hv).2.2
  have s5 := siz w w5
  have o5 : OwnB w.heap.size (.above w5.heap.size) := own_above s5
  clear hb hv
  go_wp2_with fail
  go_loopw [9, 10, 44] (fun u b i wr => ∃ j : Nat, ∃ m : Int, ∃ xs : List ByteArray, j ≤ ord.length ∧ i = .int .i64 (j : Int) ∧ b = .int .i64 m ∧ m ≤ 16781312 ∧ 0 - 4096 * (j : Int) ≤ m ∧ Aside0 (xs ++ vicGo quota m (ord.drop j) = r) ∧ xs.length ≤ j ∧ Aside0 (Kd.R Kd.string 9 wr w5.heap.size (fun _ => True) u xs) ∧ Aside0 (Below w5.heap.size w5 wr)) (fun u b i _ => ord.length - (intOf i).toNat)
  case atStart => exact ⟨0, _, [], Nat.zero_le _, rfl, rfl, by omega, by omega, HRR, Nat.le_refl _, ⟨Kd.R_nil _ _ _ _ _⟩, ⟨Below.refl _ _⟩⟩
  case round =>
    obtain ⟨j, m, xs, hj, rfl, rfl, hm1, hm2, HI, hxl, HU, HB⟩ := hrel
    have pr := prev_above HB.out
    have sb := HB.out.size
    obtain ⟨A1, c1, rfl⟩ := Kd.R_slice HU.out
    by_cases hlt : j < ord.length
    · obtain ⟨ad, e, x0⟩ := C35_at HO.out j hlt
      subst e
      have hd := List.drop_eq_getElem_cons hlt
      have hI := HI.out
      rw [hd] at hI
      have hk := HOM.out _ (List.getElem_mem hlt)
      generalize ord[j] = x at x0 hI hk
      simp only [vicGo] at hI
      have HX := Aside0.mk (At_below x0 HB.out)
      obtain ⟨k1, k2⟩ := hk
      clear hd x0 HI
      have o4 : OwnB w.heap.size (.row wr.heap.size) := own_row (by omega)
      have q4 : OwnB w5.heap.size (.row wr.heap.size) := own_row sb
      by_cases hmq : m ≤ quota
      · rw [if_pos hmq, List.append_nil] at hI
        subst hI
        have d4 : decide (m ≤ quota) = true := decide_eq_true hmq
        go_wp2_with (first
          | ((with_reducible refine gate_dst (N := 47) rfl ?_); refine seg_load rfl 35 (.tmp 46) rfl HX.out (A35 x) rfl rfl hu35 rfl info35s ?_)
          | ((with_reducible refine gate_store (t := 35) (p := 12) rfl ?_); refine box_store rfl rfl 35 (.tmp 12) (.tmp 47) rfl held (A35 x) rfl rfl info35s (by rfl) (by rfl) ?_
             intro w7 hx7 hg7
             have p7 := prev_row hg7
             have h7 : Holds w7 wr.heap.size (.cells (A35 x) 35) := ⟨hx7⟩
             have s7 := hg7.size
             simp only [World.size_alloc] at s7
             have HU7 := Aside0.mk (rowW HU.out (Below.trans (below_new wr (.cells Z35 35)) (below_row hg7)))
             clear hx7 hg7))
        go_ret2
        exact ⟨_, rfl, Kd.R_lower HU7.out s5, bel _ _⟩
      · rw [if_neg hmq] at hI
        have hI' : Aside0 ((xs ++ [x.f0]) ++ vicGo quota (m - x.f1) (ord.drop (j + 1)) = r) := ⟨by rw [List.append_assoc]; exact hI⟩
        have d4 : decide (m ≤ quota) = false := decide_eq_false hmq
        clear hI
        go_wp2_with (first
          | ((with_reducible refine gate_dst (N := 47) rfl ?_); refine seg_load rfl 35 (.tmp 46) rfl HX.out (A35 x) rfl rfl hu35 rfl info35s ?_)
          | ((with_reducible refine gate_store (t := 35) (p := 12) rfl ?_); refine box_store rfl rfl 35 (.tmp 12) (.tmp 47) rfl held (A35 x) rfl rfl info35s (by rfl) (by rfl) ?_
             intro w7 hx7 hg7
             have p7 := prev_row hg7
             have h7 : Holds w7 wr.heap.size (.cells (A35 x) 35) := ⟨hx7⟩
             have s7 := hg7.size
             simp only [World.size_alloc] at s7
             have HU7 := Aside0.mk (rowW HU.out (Below.trans (below_new wr (.cells Z35 35)) (below_row hg7)))
             clear hx7 hg7)
          | ((with_reducible refine gate_builtin (b := .append) (xs := #[.tmp 51, .tmp 54]) rfl ?_); at_builtin; refine Kd.R_append Kd.string (w0 := w5) w5.heap.size rfl (.tmp 51) (.tmp 54) 30 9 (.string ⟨#[]⟩) 16 rfl Tryd.underlying30 info9 rfl (by decide) (by decide) (.slice A1 xs.length c1) xs x.f0 [.string x.f0] (fun _ => True) (fun _ => False) rfl ?aX ?aP (fun _ hk => hk.elim) (fun _ _ => trivial) ?aO ?aB ?aS ?aL ?_; (case aX => rfl); (case aP => exact rfl); (case aO => exact HU7.out); (case aB => exact (HB.out.trans ((inferInstance : Bel w5.heap.size wr _).out sb))); (case aS => omega); (case aL => omega); intro v8 w8 h8 hb8 hg8 hat8; have p8 := prev_grown hg8; have a8 : Apart wr.heap.size (touchOf (.slice A1 xs.length c1 : Value).ownBlock) := apart_R HU7.out held (by decide); have b8 : OwnB w.heap.size (touchOf (.slice A1 xs.length c1 : Value).ownBlock) := ownB_R HU7.out s5; have HB8 := Aside0.mk hb8; have H8 := Aside0.mk h8; clear hb8 h8 hg8 hat8))
        go_roundw
        case rel => exact ⟨j + 1, m - x.f1, xs ++ [x.f0], by omega, by go_num, by go_num, by omega, by omega, hI', by simp; omega, H8, HB8⟩
        case measure => simp [intOf]; omega
    · have hI := HI.out
      rw [List.drop_of_length_le (by omega)] at hI
      simp only [vicGo, List.append_nil] at hI
      subst hI
      clear HI
      go_wp2_with fail
      go_ret2
      exact ⟨_, rfl, Kd.R_lower HU.out s5, bel _ _⟩
theorem lru_Victims.calls (A : Option Addr) (c : Nat) (l : List S35) (quota need : Int) (r1 : List ByteArray) (r2 : Int) (w : World) (hC : Kd.C k35 w A l.length l) (hc : l.length ≤ c) (h : lru_Victims.f l quota need = some (r1, r2)) :
    Calls Tryd.prog 19 #[.slice A l.length c, .int .i64 quota, .int .i64 need] w fun e w' => ∃ v, e = .returned (.tuple #[v, .int .i64 r2]) ∧ Kd.R Kd.string 9 w' w.heap.size (fun _ => True) v r1 ∧ Below w.heap.size w w' := by
  unfold lru_Victims.f at h
  split at h
  · rename_i hs
    injection h with h
    unfold victimsS at h
    by_cases h0 : checkS l = 0
    · rw [if_neg (by simp [h0])] at h
      by_cases hb : boundB quota = true
      · by_cases hn : need < 0
        · rw [if_pos (.inr (.inl hn))] at h
          obtain ⟨rfl, rfl⟩ := Prod.mk.inj h
          exact vic_arg2 w A c l quota need hC hc hs h0 hb hn
        · by_cases hm : 4096 < need
          · rw [if_pos (.inr (.inr hm))] at h
            obtain ⟨rfl, rfl⟩ := Prod.mk.inj h
            exact vic_arg3 w A c l quota need hC hc hs h0 hb hn hm
          · rw [if_neg (by rintro (h1 | h1 | h1); · rw [hb] at h1; exact absurd h1 (by decide)
                           · exact hn h1
                           · exact hm h1)] at h
            by_cases hq : quota < totalS fixedC l + need
            · rw [if_pos hq] at h
              obtain ⟨rfl, rfl⟩ := Prod.mk.inj h
              exact vic_quota w A c l quota need hC hc hs h0 hb (by omega) (by omega) hq
            · rw [if_neg hq] at h
              obtain ⟨rfl, rfl⟩ := Prod.mk.inj h
              exact vic_yes w A c l quota need hC hc hs h0 hb (by omega) (by omega) hq
      · rw [if_pos (.inl (by simpa using hb))] at h
        obtain ⟨rfl, rfl⟩ := Prod.mk.inj h
        exact vic_arg1 w A c l quota need hC hc hs h0 (by simpa using hb)
    · rw [if_pos h0] at h
      obtain ⟨rfl, rfl⟩ := Prod.mk.inj h
      exact vic_no w A c l quota need hC hc hs h0
  · simp at h
/-! ### lru.Spare -/

set_option maxRecDepth 100000 in
set_option maxHeartbeats 2000000 in
theorem spare_no (w : World) (A : Option Addr) (c : Nat) (l : List S35) (quota : Int) (hC : k35.C w A l.length l) (hl : l.length ≤ c) (hs : short l = true) (h : checkS l ≠ 0) :
    Calls Tryd.prog 23 #[.slice A l.length c, .int .i64 quota] w fun e w' => e = .returned (.int .i64 0) ∧ Below w.heap.size w w' := by
  have hck := fun (W : World) (h : k35.C W A l.length l) => check_c h hl hs
  generalize checkS l = q at h hck
  have hz1 : (q == 0) = false := beq_eq_false_iff_ne.mpr h
  have hz2 : (q != 0) = true := bne_iff_ne.mpr h
  have HCK := Aside0.mk hck
  have HC := Aside0.mk hC
  clear hck hC hs h
  go_enter Tryd.func23, Tryd.ntmps23
  go_wp2_with fail
  refine (HCK.out _ ?hC).mono ?_
  case hC => exact Kd.C_below HC.out (bel _ _)
  rintro e w1 ⟨rfl, hb⟩
  have p1 := prev_call hb
  clear hb
  go_wp2_with fail
  go_ret
  exact ⟨rfl, bel _ _⟩
set_option maxRecDepth 100000 in
set_option maxHeartbeats 2000000 in
theorem spare_arg (w : World) (A : Option Addr) (c : Nat) (l : List S35) (quota : Int) (hC : k35.C w A l.length l) (hl : l.length ≤ c) (hs : short l = true) (h : checkS l = 0) (hb : boundB quota = false) :
    Calls Tryd.prog 23 #[.slice A l.length c, .int .i64 quota] w fun e w' => e = .returned (.int .i64 0) ∧ Below w.heap.size w w' := by
  have hck := fun (W : World) (h : k35.C W A l.length l) => check_c h hl hs
  rw [h] at hck
  have HCK := Aside0.mk hck
  have HC := Aside0.mk hC
  have hbd := fun W => bound_c W quota
  rw [hb] at hbd
  have HBD := Aside0.mk hbd
  clear hck hC hs h hb hbd
  go_enter Tryd.func23, Tryd.ntmps23
  go_wp2_with fail
  refine (HCK.out _ ?hC).mono ?_
  case hC => exact Kd.C_below HC.out (bel _ _)
  rintro e w1 ⟨rfl, hb⟩
  have p1 := prev_call hb
  clear hb
  go_wp2_with fail
  refine (HBD.out _).mono ?_
  rintro e w2 ⟨rfl, hb⟩
  have p2 := prev_call hb
  clear hb
  go_wp2_with fail
  go_ret
  exact ⟨rfl, bel _ _⟩
set_option maxRecDepth 100000 in
set_option maxHeartbeats 2000000 in
theorem spare_yes (w : World) (A : Option Addr) (c : Nat) (l : List S35) (quota : Int) (hC : k35.C w A l.length l) (hl : l.length ≤ c) (hs : short l = true) (h : checkS l = 0) (hb : boundB quota = true) (r : Int) (hr : r = if quota ≤ totalS fixedC l then 0 else if 4096 < quota - totalS fixedC l then 4096 else quota - totalS fixedC l) :
    Calls Tryd.prog 23 #[.slice A l.length c, .int .i64 quota] w fun e w' => e = .returned (.int .i64 r) ∧ Below w.heap.size w w' := by
  have hck := fun (W : World) (h : k35.C W A l.length l) => check_c h hl hs
  rw [h] at hck
  have HCK := Aside0.mk hck
  have HC := Aside0.mk hC
  have hq1 : 0 ≤ quota ∧ quota ≤ 4611686018427387904 := by
    unfold boundB at hb
    simp only [Bool.and_eq_true, decide_eq_true_eq] at hb
    exact hb
  have hbd := fun W => bound_c W quota
  rw [hb] at hbd
  have HBD := Aside0.mk hbd
  obtain ⟨t1, t2⟩ := total_range fixedC l h
  have hfx := fun (W : World) (h : k35.C W A l.length l) => fixedL_c h hl hs
  generalize totalS fixedC l = tf at t1 t2 hfx hr
  have HFX := Aside0.mk hfx
  have HR := Aside0.mk (show r = max 0 (min (quota - tf) 4096) by split at hr <;> (try split at hr) <;> omega)
  clear hck hC hs h hb hbd hfx hr
  go_enter Tryd.func23, Tryd.ntmps23
  go_wp2_with fail
  refine (HCK.out _ ?hC).mono ?_
  case hC => exact Kd.C_below HC.out (bel _ _)
  rintro e w1 ⟨rfl, hb⟩
  have p1 := prev_call hb
  clear hb
  go_wp2_with fail
  refine (HBD.out _).mono ?_
  rintro e w2 ⟨rfl, hb⟩
  have p2 := prev_call hb
  clear hb
  go_wp2_with fail
  refine (HFX.out _ ?hC).mono ?_
  case hC => exact Kd.C_below HC.out (bel _ _)
  rintro e w3 ⟨rfl, hb⟩
  have p3 := prev_call hb
  clear hb
  go_wp2_with fail
  go_ret
  exact ⟨by rw [HR.out]; rfl, bel _ _⟩
theorem lru_Spare.calls (A : Option Addr) (c : Nat) (l : List S35) (quota : Int) (r : Int) (w : World) (hC : Kd.C k35 w A l.length l) (hc : l.length ≤ c) (h : lru_Spare.f l quota = some r) :
    Calls Tryd.prog 23 #[.slice A l.length c, .int .i64 quota] w fun e w' => e = .returned (.int .i64 r) ∧ Below w.heap.size w w' := by
  unfold lru_Spare.f at h
  split at h
  · rename_i hs
    injection h with h
    unfold spareS at h
    by_cases h0 : checkS l = 0
    · by_cases hb : boundB quota = true
      · rw [if_neg (by rintro (h1 | h1); · exact h1 h0
                       · rw [hb] at h1; exact absurd h1 (by decide))] at h
        exact spare_yes w A c l quota hC hc hs h0 hb r h.symm
      · rw [if_pos (.inr (by simpa using hb))] at h
        subst h
        exact spare_arg w A c l quota hC hc hs h0 (by simpa using hb)
    · rw [if_pos (.inl h0)] at h
      subst h
      exact spare_no w A c l quota hC hc hs h0
  · simp at h
end Go.Proofs.YtdggdmdefmljlaaDoor.Q

namespace Go.Proofs.YtdggdmdefmljlaaDoor.Q
open Go.RowKit Go.Proofs.YtdggdmdefmljlaaDoorW.PrintWords Go.Proofs.YtdggdmdefmljlaaDoorW.PrintLast Go.Proofs.YtdggdmdefmljlaaDoorW.PrintMore Go.Proofs.YtdggdmdefmljlaaDoorK
attribute [local go_sem] max2_int min2_int max_two min_two max_three min_three max_four min_four   -- for this text's walks alone
attribute [local go_sem ↓] Go.Proofs.YtdggdmdefmljlaaDoorK.isSome_setCell
set_option linter.unusedVariables false
set_option linter.unusedSimpArgs false

/-! ### aquiferlaw26_few: function 8 -/
def aquiferlaw26_few.l0 : Nat → List (S35) → List (S35) → Int → Option ((List (S35)))
  | 0, _, _, _ => none
  | k + 1, x0, x3, x4 => if x4 < (x0.length : Int) then (if x4 < 40 then (if 0 ≤ x4 then (if 0 ≤ (mn (((rd_T35 x0 x4).f0).size : Int) 110) then (if (mn (((rd_T35 x0 x4).f0).size : Int) 110) ≤ (((rd_T35 x0 x4).f0).size : Int) then (if x3.length < 3518437208883 then (aquiferlaw26_few.l0 k x0 (x3 ++ [(⟨((rd_T35 x0 x4).f0).extract 0 ((mn (((rd_T35 x0 x4).f0).size : Int) 110) : Int).toNat, (rd_T35 x0 x4).f1, (rd_T35 x0 x4).f2, (rd_T35 x0 x4).f3, (rd_T35 x0 x4).f4⟩ : S35)]) (wrap64 (x4 + 1))) else (none)) else (none)) else (none)) else (none)) else (some x3)) else (some x3)
def aquiferlaw26_few.f (k : Nat) (l0 : List (S35)) : Option ((List (S35))) := aquiferlaw26_few.l0 k l0 ([] : List (S35)) 0
theorem aquiferlaw26_few.mono_l : ∀ k, (∀ y0 y1 y2, LeO (aquiferlaw26_few.l0 k y0 y1 y2) (aquiferlaw26_few.l0 (k + 1) y0 y1 y2))
  | 0 => fun _ _ _ r h => by simp [aquiferlaw26_few.l0] at h
  | k + 1 => by
    have ih0 := aquiferlaw26_few.mono_l k
    · intro y0 y1 y2
      unfold aquiferlaw26_few.l0
      repeat' first
      | (with_reducible exact ih0 _ _ _)
      | (with_reducible exact LeO.refl _)
      | (with_reducible exact LeO.none _)
      | (with_reducible refine LeO.ite ?_ ?_)
      | (with_reducible refine LeO.bind ?_ (fun _ => ?_))
      | exact ih0 _ _ _
      | exact LeO.none _
      | refine LeO.ite ?_ ?_
      | refine LeO.bind ?_ (fun _ => ?_)
theorem aquiferlaw26_few.mono : ∀ a0 k, LeO (aquiferlaw26_few.f k a0) (aquiferlaw26_few.f (k + 1) a0) := by
  intro a0 k
  have ih0 := aquiferlaw26_few.mono_l k
  unfold aquiferlaw26_few.f
  repeat' first
      | (with_reducible exact ih0 _ _ _)
      | (with_reducible exact LeO.refl _)
      | (with_reducible exact LeO.none _)
      | (with_reducible refine LeO.ite ?_ ?_)
      | (with_reducible refine LeO.bind ?_ (fun _ => ?_))
      | exact ih0 _ _ _
      | exact LeO.none _
      | refine LeO.ite ?_ ?_
      | refine LeO.bind ?_ (fun _ => ?_)
set_option maxHeartbeats 8000000 in
set_option maxRecDepth 100000 in
theorem aquiferlaw26_few.calls (k : Nat) (A0 : Option Addr) (c0 : Nat) (l0 : List (S35)) (r : List (S35)) (w : World) (hr0 : Kd.C k35 w A0 l0.length l0) (hc0 : l0.length ≤ c0) (h : aquiferlaw26_few.f k l0 = some r) :
    Calls Tryd.prog 8 #[.slice A0 l0.length c0] w fun e w' => ∃ v0_ : Value, e = .returned (v0_) ∧ Kd.R k35 35 w' w.heap.size (fun _ => True) v0_ r ∧ Below w.heap.size w w' := by
  have hu35 := Tryd.underlying35
  have HR0 := Aside0.mk hr0
  have HC0 := Aside0.mk hc0
  clear hr0 hc0
  have HB := Aside0.mk (Below.refl w.heap.size w)
  have H : (aquiferlaw26_few.l0 k l0 ([] : List (S35)) 0) = some r := h
  clear h
  have H' := Aside0.mk H
  clear H
  go_enter Tryd.func8, Tryd.ntmps8
  go_wp2
  go_loopg [3, 4] k (fun kq v3 v4 w' => ∃ (x3_1 : List (S35)) (x4_1 : Int), v4 = .int .i64 x4_1 ∧ Aside0 (aquiferlaw26_few.l0 kq l0 x3_1 x4_1 = some r) ∧ Aside0 (kq ≤ k) ∧ Aside0 (Kd.R k35 35 w' w.heap.size (fun _ => True) v3 x3_1) ∧ Aside0 (Below w.heap.size w w'))
  case atStart => exact ⟨(([] : List (S35))), (0), (by first | rfl | (simp; done) | (simp [*]; done)), H', ⟨Nat.le_refl _⟩, ⟨by first | exact Kd.R_nil _ _ _ _ _ | exact Kd.N_nil _ _ _ _ _ | exact Kd.V_nil _ _ _ _ _ | exact Kd.Q_nil _ _ _ _ _ | exact Kd.S_nil _ _ _ _ _⟩, ⟨belU HB.out⟩⟩
  case round =>
    clear H'
    obtain ⟨x3_1, x4_1, rfl, HA, HK1, HO_3, HB⟩ := hrel
    cases gk with
    | zero => exact absurd HA.out (by simp [aquiferlaw26_few.l0])
    | succ k1 =>
      have H := HA.out
      clear HA
      simp only [aquiferlaw26_few.l0] at H
      by_cases c2 : x4_1 < (l0.length : Int)
      · rw [if_pos c2] at H
        have c2b0 : decide (x4_1 < (l0.length : Int)) = true := decide_eq_true c2
        clear c2
        by_cases c3 : x4_1 < 40
        · rw [if_pos c3] at H
          have c3b0 : decide (x4_1 < 40) = true := decide_eq_true c3
          clear c3
          by_cases c4 : 0 ≤ x4_1
          · rw [if_pos c4] at H
            have c4b0 : decide (0 ≤ x4_1) = true := decide_eq_true c4
            clear c4
            obtain ⟨ji5, hji5⟩ : ∃ j_ : Int, (mn (((rd_T35 l0 x4_1).f0).size : Int) 110) = j_ := ⟨_, rfl⟩
            replace H : (if 0 ≤ (ji5) then (if (ji5) ≤ (((rd_T35 l0 x4_1).f0).size : Int) then (if x3_1.length < 3518437208883 then (aquiferlaw26_few.l0 k1 l0 (x3_1 ++ [(⟨((rd_T35 l0 x4_1).f0).extract 0 ((ji5) : Int).toNat, (rd_T35 l0 x4_1).f1, (rd_T35 l0 x4_1).f2, (rd_T35 l0 x4_1).f3, (rd_T35 l0 x4_1).f4⟩ : S35)]) (wrap64 (x4_1 + 1))) else (none)) else (none)) else (none)) = some r := by first | (rw [hji5] at H; exact H) | (simp only [hji5] at H ⊢; exact H)
            have hji5_ : (if 110 < (((rd_T35 l0 x4_1).f0).size : Int) then 110 else (((rd_T35 l0 x4_1).f0).size : Int)) = ji5 := hji5
            by_cases c6 : 0 ≤ (ji5)
            · rw [if_pos c6] at H
              have c6b0 := eq_true c6
              have c6b1 : decide (0 ≤ (ji5)) = true := decide_eq_true c6
              clear c6
              by_cases c7 : (ji5) ≤ (((rd_T35 l0 x4_1).f0).size : Int)
              · rw [if_pos c7] at H
                have c7b0 := eq_true c7
                have c7b1 : decide ((ji5) ≤ (((rd_T35 l0 x4_1).f0).size : Int)) = true := decide_eq_true c7
                clear c7
                by_cases c8 : x3_1.length < 3518437208883
                · rw [if_pos c8] at H
                  have LMc8 := Aside0.mk c8
                  clear c8
                  obtain ⟨y103, hy103⟩ : ∃ y_ : List (S35), y_ = (x3_1 ++ [(⟨((rd_T35 l0 x4_1).f0).extract 0 ((ji5) : Int).toNat, (rd_T35 l0 x4_1).f1, (rd_T35 l0 x4_1).f2, (rd_T35 l0 x4_1).f3, (rd_T35 l0 x4_1).f4⟩ : S35)]) := ⟨_, rfl⟩
                  replace H : (aquiferlaw26_few.l0 k1 l0 y103 (wrap64 (x4_1 + 1))) = some r := by first | (rw [hy103]; with_reducible exact H) | (have H2_ := (Option.bind_some _ _).symm.trans H; rw [hy103]; with_reducible exact H2_) | (have H2_ := (Option.bind_some _ _).symm.trans H; with_reducible exact H2_) | with_reducible exact H | (rw [hy103]; exact H) | exact H
                  have Ny103 := Aside0.mk hy103
                  clear hy103
                  have H' := Aside0.mk H
                  clear H
                  have p101 : 0 ≤ (x4_1 : Int) := of_decide_eq_true (by first | (with_reducible assumption) | assumption)
                  have q101 : x4_1 < (l0.length : Int) := of_decide_eq_true (by first | (with_reducible assumption) | assumption)
                  obtain ⟨ad101, e101, hx101_0, hx101_1, hx101_2, hx101_3, hx101_4⟩ := at_T35 HR0.out x4_1 p101 q101
                  cases e101
                  replace hx101_0 := (HB.out.cell (World.block_lt_of_cell? w _ hx101_0)).trans hx101_0
                  replace hx101_1 := (HB.out.cell (World.block_lt_of_cell? w _ hx101_1)).trans hx101_1
                  replace hx101_2 := (HB.out.cell (World.block_lt_of_cell? w _ hx101_2)).trans hx101_2
                  replace hx101_3 := (HB.out.cell (World.block_lt_of_cell? w _ hx101_3)).trans hx101_3
                  replace hx101_4 := (HB.out.cell (World.block_lt_of_cell? w _ hx101_4)).trans hx101_4
                  replace p101 := eq_true p101
                  replace q101 := eq_true q101
                  go_wp2_with (first | ((with_reducible refine gate_dst (N := 5) rfl ?_); refine box_event ?hg (N := 5) ?hd (cs := #[.string (⟨#[]⟩ : ByteArray), .int .i64 0, .int .i64 0, .bool false, .bool false]) (t := 35) ?hr ?_; (case hd => rfl); (case hg => rfl); (case hr => first | (go_simp; done) | (go_simp; rfl)); intro gb102 hg w9 hbox hb; have n0_ := Aside0.mk (Kd.R_below (Kd.R_elderB (RU HO_3.out) gb102 (Nat.le_of_eq hg.symm)) hb); have n1_ := Aside0.mk (below_step (belU HB.out) hb); have n2_ := Aside0.mk (hbox); have n3_ := Aside0.mk ((by rw [hg]; exact (sizU HB.out) : w.heap.size ≤ gb102)); have n4_ := Aside0.mk ((by rw [hg]; exact (sizU HB.out) : w.heap.size ≤ gb102)); clear HO_3; clear HB; have HO_3 := n0_; have HB := n1_; have BK102 := n2_; have GW102 := n3_; have GE102 := n4_; clear n0_ n1_ n2_ n3_ n4_; clear hb hbox hg; have hcz10_0 : w9.cell? ⟨gb102, 0, none⟩ = some (.string (⟨#[]⟩ : ByteArray)) := (blk_cell BK102.out 0).trans rfl; have hcz10_1 : w9.cell? ⟨gb102, 1, none⟩ = some (.int .i64 0) := (blk_cell BK102.out 1).trans rfl; have hcz10_2 : w9.cell? ⟨gb102, 2, none⟩ = some (.int .i64 0) := (blk_cell BK102.out 2).trans rfl; have hcz10_3 : w9.cell? ⟨gb102, 3, none⟩ = some (.bool false) := (blk_cell BK102.out 3).trans rfl; have hcz10_4 : w9.cell? ⟨gb102, 4, none⟩ = some (.bool false) := (blk_cell BK102.out 4).trans rfl; have hfz10_0 := blk_frozen BK102.out 0; have hfz10_1 := blk_frozen BK102.out 1; have hfz10_2 := blk_frozen BK102.out 2; have hfz10_3 := blk_frozen BK102.out 3; have hfz10_4 := blk_frozen BK102.out 4) | ((with_reducible refine gate_builtin (b := .append) (xs := #[.tmp 28, .tmp 30]) rfl ?_); at_builtin; refine Kd.R_append k35 (w0 := w) w.heap.size rfl (.tmp 28) (.tmp 30) 22 35 (.agg #[(.string ⟨#[]⟩), (.int .i64 0), (.int .i64 0), (.bool false), (.bool false)]) 40 rfl Tryd.underlying22 info35 rfl (by decide) (by omega) u3 x3_1 (⟨((rd_T35 l0 x4_1).f0).extract 0 ((ji5) : Int).toNat, (rd_T35 l0 x4_1).f1, (rd_T35 l0 x4_1).f2, (rd_T35 l0 x4_1).f3, (rd_T35 l0 x4_1).f4⟩ : S35) [.string (((rd_T35 l0 x4_1).f0).extract 0 ((ji5) : Int).toNat), .int .i64 ((rd_T35 l0 x4_1).f1), .int .i64 ((rd_T35 l0 x4_1).f2), .bool ((rd_T35 l0 x4_1).f3), .bool ((rd_T35 l0 x4_1).f4)] (fun k_ => k_ ≠ gb102) (fun _ => False) rfl (by first | (go_simp; done) | (go_simp; rfl)) ?aP (fun _ hk => hk.elim) ?aF ?aO ?aB ?aS ?aL ?_; (case aP => exact k35_mkM _ _ _ (⟨((rd_T35 l0 x4_1).f0).extract 0 ((ji5) : Int).toNat, (rd_T35 l0 x4_1).f1, (rd_T35 l0 x4_1).f2, (rd_T35 l0 x4_1).f3, (rd_T35 l0 x4_1).f4⟩ : S35)); (case aB => exact (belG HB.out GE102.out)); (case aF => exact (fun k_ hk => Kd.freshB (g := gb102) (o := .cells #[.string (((rd_T35 l0 x4_1).f0).extract 0 ((ji5) : Int).toNat), .int .i64 ((rd_T35 l0 x4_1).f1), .int .i64 ((rd_T35 l0 x4_1).f2), .bool ((rd_T35 l0 x4_1).f3), .bool ((rd_T35 l0 x4_1).f4)] 35 (0, 0)) (blkP BK102.out (by rfl)) k_ hk)); (case aO => exact (by (with_reducible repeat (first | apply Kd.R_alloc | apply Kd.R_drewN | apply Kd.R_drew)); exact Kd.R_mono (Kd.R_far (p := ⟨gb102, 0, none⟩) (Kd.R_far (p := ⟨gb102, 4, none⟩) (Kd.R_far (p := ⟨gb102, 3, none⟩) (Kd.R_far (p := ⟨gb102, 2, none⟩) (Kd.R_far (p := ⟨gb102, 1, none⟩) (Kd.R_far (p := ⟨gb102, 0, none⟩) (Kd.R_mono HO_3.out (fun k_ hk => (⟨hk, hk.2⟩ : _ ∧ k_ ≠ gb102))) (fun _ hk => hk.2) (.string ((rd_T35 l0 x4_1).f0))) (fun _ hk => hk.2) (.int .i64 ((rd_T35 l0 x4_1).f1))) (fun _ hk => hk.2) (.int .i64 ((rd_T35 l0 x4_1).f2))) (fun _ hk => hk.2) (.bool ((rd_T35 l0 x4_1).f3))) (fun _ hk => hk.2) (.bool ((rd_T35 l0 x4_1).f4))) (fun _ hk => hk.2) (.string (((rd_T35 l0 x4_1).f0).extract 0 ((ji5) : Int).toNat))) (fun _ hk => hk.1.2))); (case aS => exact (sizG HB.out GE102.out)); (case aL => have := LMc8.out; omega); intro v104 w11 ho hb hg hat; rw [← Ny103.out] at ho; have n0_ := Aside0.mk (blk_grown (g := gb102) (o := .cells #[.string (((rd_T35 l0 x4_1).f0).extract 0 ((ji5) : Int).toNat), .int .i64 ((rd_T35 l0 x4_1).f1), .int .i64 ((rd_T35 l0 x4_1).f2), .bool ((rd_T35 l0 x4_1).f3), .bool ((rd_T35 l0 x4_1).f4)] 35 (0, 0)) (blkP BK102.out (by rfl)) hg (Kd.R_away HO_3.out (fun _ hk => hk.2))); have n1_ := Aside0.mk (hb); have n2_ := Aside0.mk (ho); clear BK102; clear HB; clear HO_3; have BK102 := n0_; have HB := n1_; have HO105 := n2_; clear n0_ n1_ n2_; clear ho hb hg hat))
                  go_roundg k1
                  case measure => have := HK1.out; omega
                  case rel => exact ⟨(y103), (wrap64 (x4_1 + 1)), (by first | rfl | (simp; done) | (simp [*]; done)), H', ⟨by have := HK1.out; omega⟩, ⟨by (with_reducible repeat (first | apply Kd.R_alloc | apply Kd.R_drewN | apply Kd.R_drew)); exact Kd.R_mono HO105.out (fun _ hk => trivial)⟩, ⟨belG HB.out GE102.out⟩⟩
                · rw [if_neg c8] at H
                  exact absurd H (by simp)
              · rw [if_neg c7] at H
                exact absurd H (by simp)
            · rw [if_neg c6] at H
              exact absurd H (by simp)
          · rw [if_neg c4] at H
            exact absurd H (by simp)
        · rw [if_neg c3] at H
          have c3b0 : decide (x4_1 < 40) = false := decide_eq_false c3
          clear c3
          obtain rfl := Option.some.inj H
          go_wp2
          go_ret
          exact ⟨_, by first | rfl | (simp [errW_none, errW_some] <;> rfl) | (simp [*, errW_none, errW_some] <;> rfl), by (with_reducible repeat (first | apply Kd.R_alloc | apply Kd.R_drewN | apply Kd.R_drew)); exact HO_3.out, belU HB.out⟩
      · rw [if_neg c2] at H
        have c2b0 : decide (x4_1 < (l0.length : Int)) = false := decide_eq_false c2
        clear c2
        obtain rfl := Option.some.inj H
        go_wp2
        go_ret
        exact ⟨_, by first | rfl | (simp [errW_none, errW_some] <;> rfl) | (simp [*, errW_none, errW_some] <;> rfl), by (with_reducible repeat (first | apply Kd.R_alloc | apply Kd.R_drewN | apply Kd.R_drew)); exact HO_3.out, belU HB.out⟩

end Go.Proofs.YtdggdmdefmljlaaDoor.Q

namespace Go.Proofs.YtdggdmdefmljlaaDoor.Q
open Go.RowKit Go.Proofs.YtdggdmdefmljlaaDoorW.PrintWords Go.Proofs.YtdggdmdefmljlaaDoorW.PrintLast Go.Proofs.YtdggdmdefmljlaaDoorW.PrintMore Go.Proofs.YtdggdmdefmljlaaDoorK
attribute [local go_sem] max2_int min2_int max_two min_two max_three min_three max_four min_four   -- for this text's walks alone
attribute [local go_sem ↓] Go.Proofs.YtdggdmdefmljlaaDoorK.isSome_setCell
set_option linter.unusedVariables false
set_option linter.unusedSimpArgs false

/-! ### aquiferlaw26_works: function 18 -/
def aquiferlaw26_works.f  : Option (Bool) := (lru_Victims.f (([(⟨(⟨#[97, 46, 120]⟩ : ByteArray), 60, 3, false, false⟩ : S35), (⟨(⟨#[98, 46, 120]⟩ : ByteArray), 50, 1, false, false⟩ : S35), (⟨(⟨#[99, 46, 120]⟩ : ByteArray), 20, 0, false, true⟩ : S35)] : List (S35))) 130 30).bind fun bt177 => (if (bt177.1.length : Int) = 1 then (if 0 < (bt177.1.length : Int) then (if (rdOf ByteArray.empty bt177.1 0).toList = ([98, 46, 120] : List UInt8) then (some (bt177.2 == 0)) else (some false)) else (none)) else (some false))
set_option maxHeartbeats 8000000 in
set_option maxRecDepth 100000 in
theorem aquiferlaw26_works.calls  (r : Bool) (w : World) (h : aquiferlaw26_works.f  = some r) :
    Calls Tryd.prog 18 #[] w fun e w' => e = .returned (.bool r) ∧ Below w.heap.size w w' := by
  have hu35 := Tryd.underlying35
  have HB := Aside0.mk (Below.refl w.heap.size w)
  have H : ((lru_Victims.f (([(⟨(⟨#[97, 46, 120]⟩ : ByteArray), 60, 3, false, false⟩ : S35), (⟨(⟨#[98, 46, 120]⟩ : ByteArray), 50, 1, false, false⟩ : S35), (⟨(⟨#[99, 46, 120]⟩ : ByteArray), 20, 0, false, true⟩ : S35)] : List (S35))) 130 30).bind fun bt177 => (if (bt177.1.length : Int) = 1 then (if 0 < (bt177.1.length : Int) then (if (rdOf ByteArray.empty bt177.1 0).toList = ([98, 46, 120] : List UInt8) then (some (bt177.2 == 0)) else (some false)) else (none)) else (some false))) = some r := h
  clear h
  obtain ⟨y174, hy174⟩ : ∃ y_ : List (S35), y_ = (([(⟨(⟨#[97, 46, 120]⟩ : ByteArray), 60, 3, false, false⟩ : S35), (⟨(⟨#[98, 46, 120]⟩ : ByteArray), 50, 1, false, false⟩ : S35), (⟨(⟨#[99, 46, 120]⟩ : ByteArray), 20, 0, false, true⟩ : S35)] : List (S35))) := ⟨_, rfl⟩
  replace H : ((lru_Victims.f y174 130 30).bind fun bt177 => (if (bt177.1.length : Int) = 1 then (if 0 < (bt177.1.length : Int) then (if (rdOf ByteArray.empty bt177.1 0).toList = ([98, 46, 120] : List UInt8) then (some (bt177.2 == 0)) else (some false)) else (none)) else (some false))) = some r := by first | (rw [hy174]; with_reducible exact H) | (have H2_ := (Option.bind_some _ _).symm.trans H; rw [hy174]; with_reducible exact H2_) | (have H2_ := (Option.bind_some _ _).symm.trans H; with_reducible exact H2_) | with_reducible exact H | (rw [hy174]; exact H) | exact H
  have Ny174 := Aside0.mk hy174
  clear hy174
  replace H := Option.bind_eq_some_iff.mp H
  obtain ⟨⟨t177, t178⟩, A10, H⟩ := H
  replace H : (if (t177.length : Int) = 1 then (if 0 < (t177.length : Int) then (if (rdOf ByteArray.empty t177 0).toList = ([98, 46, 120] : List UInt8) then (some (t178 == 0)) else (some false)) else (none)) else (some false)) = some r := H
  have A1 := Aside0.mk A10
  clear A10
  by_cases c2 : (t177.length : Int) = 1
  · rw [if_pos c2] at H
    have c2b0 : ((t177.length : Int) == 1) = true := beq_iff_eq.mpr c2
    have c2b1 : ((t177.length : Int) != 1) = false := bne_eq_false_iff_eq.mpr c2
    clear c2
    by_cases c3 : 0 < (t177.length : Int)
    · rw [if_pos c3] at H
      have c3b0 : decide (0 < (t177.length : Int)) = true := decide_eq_true c3
      have c3b1 : decide (0 < t177.length) = true := decide_eq_true (by omega)
      clear c3
      by_cases c4 : (rdOf ByteArray.empty t177 0).toList = ([98, 46, 120] : List UInt8)
      · rw [if_pos c4] at H
        have c4b0 : ((rdOf ByteArray.empty t177 0).toList == ([98, 46, 120] : List UInt8)) = true := beq_iff_eq.mpr c4
        have c4b1 : ((rdOf ByteArray.empty t177 0).toList != ([98, 46, 120] : List UInt8)) = false := bne_eq_false_iff_eq.mpr c4
        clear c4
        obtain rfl := Option.some.inj H
        go_enter Tryd.func18, Tryd.ntmps18
        go_wp2_with (first | ((with_reducible refine gate_dst (N := 7) rfl ?_); refine Kd.R_lit k35 _ 35 ?hg (N := 7) ?hd (xs := ([(⟨(⟨#[97, 46, 120]⟩ : ByteArray), 60, 3, false, false⟩ : S35), (⟨(⟨#[98, 46, 120]⟩ : ByteArray), 50, 1, false, false⟩ : S35), (⟨(⟨#[99, 46, 120]⟩ : ByteArray), 20, 0, false, true⟩ : S35)] : List (S35))) (inner := [.string (⟨#[97, 46, 120]⟩ : ByteArray), .int .i64 60, .int .i64 3, .bool false, .bool false, .string (⟨#[98, 46, 120]⟩ : ByteArray), .int .i64 50, .int .i64 1, .bool false, .bool false, .string (⟨#[99, 46, 120]⟩ : ByteArray), .int .i64 20, .int .i64 0, .bool false, .bool true]) (ok := fun _ => True) (okp := fun _ => True) ?hr ?hp (fun _ hk => hk) trivial (Below.refl _ _) (Nat.le_refl _) (by simp) ?_; (case hd => rfl); (case hg => rfl); (case hr => first | (go_simp; done) | (go_simp; rfl)); (case hp => exact (Reps.c5 (show Kd.M k35 _ _ _ (⟨(⟨#[97, 46, 120]⟩ : ByteArray), 60, 3, false, false⟩ : S35) [.string (⟨#[97, 46, 120]⟩ : ByteArray), .int .i64 60, .int .i64 3, .bool false, .bool false] from (k35_mkM _ _ _ (⟨(⟨#[97, 46, 120]⟩ : ByteArray), 60, 3, false, false⟩ : S35) )) (Reps.c5 (show Kd.M k35 _ _ _ (⟨(⟨#[98, 46, 120]⟩ : ByteArray), 50, 1, false, false⟩ : S35) [.string (⟨#[98, 46, 120]⟩ : ByteArray), .int .i64 50, .int .i64 1, .bool false, .bool false] from (k35_mkM _ _ _ (⟨(⟨#[98, 46, 120]⟩ : ByteArray), 50, 1, false, false⟩ : S35) )) (Reps.c5 (show Kd.M k35 _ _ _ (⟨(⟨#[99, 46, 120]⟩ : ByteArray), 20, 0, false, true⟩ : S35) [.string (⟨#[99, 46, 120]⟩ : ByteArray), .int .i64 20, .int .i64 0, .bool false, .bool true] from (k35_mkM _ _ _ (⟨(⟨#[99, 46, 120]⟩ : ByteArray), 20, 0, false, true⟩ : S35) )) (Reps.none _ _))))); intro v175 w5 ho6 hb hg_ hnew_; clear hg_ hnew_; (first | rw [← Ny174.out] at ho6 | (simp only [Int.reduceToNat] at ho6; rw [← Ny174.out] at ho6)); have n0_ := Aside0.mk (Kd.R_lower ho6 (sizU HB.out)); have n1_ := Aside0.mk (below_step (belU HB.out) hb); clear HB; have HO176 := n0_; have HB := n1_; clear n0_ n1_; clear hb ho6; obtain ⟨Ao7, co7, eo7⟩ := Kd.R_slice HO176.out; subst eo7) | ((with_reducible refine gate_callee (f := 19) rfl ?_); refine goesL_ (some 8) rfl rfl Tryd.func19 (by kernel_rfl) rfl #[.slice Ao7 y174.length co7, .int .i64 130, .int .i64 30] rfl (by (try simp only [List.map_toArray, List.map_cons, List.map_nil]); first | done | rfl | (simp only [List.length_drop, List.length_take]; rfl)) ?_; (with_reducible refine (lru_Victims.calls _ _ y174 130 30 t177 t178 _ ?side1 ?side2 A1.out).mono ?_); (case side1 => exact CU (Kd.R_reads' HO176.out).2.2); (case side2 => exact (Kd.R_reads' HO176.out).2.1); rintro e w8 ⟨v179, rfl, ho0, hb⟩; refine ⟨_, rfl, ?_⟩; have n0_ := Aside0.mk (Kd.R_below (RU HO176.out) hb); have n1_ := Aside0.mk (Kd.R_lower ho0 (sizU HB.out)); have n2_ := Aside0.mk (below_step (belU HB.out) hb); clear HO176; clear HB; have HO176 := n0_; have HO180 := n1_; have HB := n2_; clear n0_ n1_ n2_; (try clear hb); (try clear hb2); (try clear hk); (try clear hi); (try clear ho0); obtain ⟨Ao9, co9, eo9⟩ := Kd.R_slice HO180.out; subst eo9; have p181 : 0 ≤ (0 : Int) := (by omega); have q181 : 0 < (t177.length : Int) := of_decide_eq_true (by first | (with_reducible assumption) | assumption); obtain ⟨ad181, e181, hx181_0⟩ := Kd.at_string (Kd.R_reads' HO180.out).2.2 0 p181 q181; cases e181; have qi181 : (0 < t177.length) = True := eq_true (by omega); (try rw [show ((0 : Int)).toNat = 0 from rfl] at hx181_0); (try rw [Addr.add_zero'] at hx181_0); replace p181 := eq_true p181; replace q181 := eq_true q181))
        go_ret
        exact ⟨by first | rfl | (simp [errW_none, errW_some] <;> rfl) | (simp [*, errW_none, errW_some] <;> rfl), belU HB.out⟩
      · rw [if_neg c4] at H
        have c4b0 : ((rdOf ByteArray.empty t177 0).toList == ([98, 46, 120] : List UInt8)) = false := beq_eq_false_iff_ne.mpr c4
        have c4b1 : ((rdOf ByteArray.empty t177 0).toList != ([98, 46, 120] : List UInt8)) = true := bne_iff_ne.mpr c4
        obtain rfl := Option.some.inj H
        go_enter Tryd.func18, Tryd.ntmps18
        go_wp2_with (first | ((with_reducible refine gate_dst (N := 7) rfl ?_); refine Kd.R_lit k35 _ 35 ?hg (N := 7) ?hd (xs := ([(⟨(⟨#[97, 46, 120]⟩ : ByteArray), 60, 3, false, false⟩ : S35), (⟨(⟨#[98, 46, 120]⟩ : ByteArray), 50, 1, false, false⟩ : S35), (⟨(⟨#[99, 46, 120]⟩ : ByteArray), 20, 0, false, true⟩ : S35)] : List (S35))) (inner := [.string (⟨#[97, 46, 120]⟩ : ByteArray), .int .i64 60, .int .i64 3, .bool false, .bool false, .string (⟨#[98, 46, 120]⟩ : ByteArray), .int .i64 50, .int .i64 1, .bool false, .bool false, .string (⟨#[99, 46, 120]⟩ : ByteArray), .int .i64 20, .int .i64 0, .bool false, .bool true]) (ok := fun _ => True) (okp := fun _ => True) ?hr ?hp (fun _ hk => hk) trivial (Below.refl _ _) (Nat.le_refl _) (by simp) ?_; (case hd => rfl); (case hg => rfl); (case hr => first | (go_simp; done) | (go_simp; rfl)); (case hp => exact (Reps.c5 (show Kd.M k35 _ _ _ (⟨(⟨#[97, 46, 120]⟩ : ByteArray), 60, 3, false, false⟩ : S35) [.string (⟨#[97, 46, 120]⟩ : ByteArray), .int .i64 60, .int .i64 3, .bool false, .bool false] from (k35_mkM _ _ _ (⟨(⟨#[97, 46, 120]⟩ : ByteArray), 60, 3, false, false⟩ : S35) )) (Reps.c5 (show Kd.M k35 _ _ _ (⟨(⟨#[98, 46, 120]⟩ : ByteArray), 50, 1, false, false⟩ : S35) [.string (⟨#[98, 46, 120]⟩ : ByteArray), .int .i64 50, .int .i64 1, .bool false, .bool false] from (k35_mkM _ _ _ (⟨(⟨#[98, 46, 120]⟩ : ByteArray), 50, 1, false, false⟩ : S35) )) (Reps.c5 (show Kd.M k35 _ _ _ (⟨(⟨#[99, 46, 120]⟩ : ByteArray), 20, 0, false, true⟩ : S35) [.string (⟨#[99, 46, 120]⟩ : ByteArray), .int .i64 20, .int .i64 0, .bool false, .bool true] from (k35_mkM _ _ _ (⟨(⟨#[99, 46, 120]⟩ : ByteArray), 20, 0, false, true⟩ : S35) )) (Reps.none _ _))))); intro v175 w10 ho11 hb hg_ hnew_; clear hg_ hnew_; (first | rw [← Ny174.out] at ho11 | (simp only [Int.reduceToNat] at ho11; rw [← Ny174.out] at ho11)); have n0_ := Aside0.mk (Kd.R_lower ho11 (sizU HB.out)); have n1_ := Aside0.mk (below_step (belU HB.out) hb); clear HB; have HO176 := n0_; have HB := n1_; clear n0_ n1_; clear hb ho11; obtain ⟨Ao12, co12, eo12⟩ := Kd.R_slice HO176.out; subst eo12) | ((with_reducible refine gate_callee (f := 19) rfl ?_); refine goesL_ (some 8) rfl rfl Tryd.func19 (by kernel_rfl) rfl #[.slice Ao12 y174.length co12, .int .i64 130, .int .i64 30] rfl (by (try simp only [List.map_toArray, List.map_cons, List.map_nil]); first | done | rfl | (simp only [List.length_drop, List.length_take]; rfl)) ?_; (with_reducible refine (lru_Victims.calls _ _ y174 130 30 t177 t178 _ ?side1 ?side2 A1.out).mono ?_); (case side1 => exact CU (Kd.R_reads' HO176.out).2.2); (case side2 => exact (Kd.R_reads' HO176.out).2.1); rintro e w13 ⟨v179, rfl, ho0, hb⟩; refine ⟨_, rfl, ?_⟩; have n0_ := Aside0.mk (Kd.R_below (RU HO176.out) hb); have n1_ := Aside0.mk (Kd.R_lower ho0 (sizU HB.out)); have n2_ := Aside0.mk (below_step (belU HB.out) hb); clear HO176; clear HB; have HO176 := n0_; have HO180 := n1_; have HB := n2_; clear n0_ n1_ n2_; (try clear hb); (try clear hb2); (try clear hk); (try clear hi); (try clear ho0); obtain ⟨Ao14, co14, eo14⟩ := Kd.R_slice HO180.out; subst eo14; have p181 : 0 ≤ (0 : Int) := (by omega); have q181 : 0 < (t177.length : Int) := of_decide_eq_true (by first | (with_reducible assumption) | assumption); obtain ⟨ad181, e181, hx181_0⟩ := Kd.at_string (Kd.R_reads' HO180.out).2.2 0 p181 q181; cases e181; have qi181 : (0 < t177.length) = True := eq_true (by omega); (try rw [show ((0 : Int)).toNat = 0 from rfl] at hx181_0); (try rw [Addr.add_zero'] at hx181_0); replace p181 := eq_true p181; replace q181 := eq_true q181))
        go_ret
        exact ⟨by first | rfl | (simp [errW_none, errW_some] <;> rfl) | (simp [*, errW_none, errW_some] <;> rfl), belU HB.out⟩
    · rw [if_neg c3] at H
      exact absurd H (by simp)
  · rw [if_neg c2] at H
    have c2b0 : ((t177.length : Int) == 1) = false := beq_eq_false_iff_ne.mpr c2
    have c2b1 : ((t177.length : Int) != 1) = true := bne_iff_ne.mpr c2
    obtain rfl := Option.some.inj H
    go_enter Tryd.func18, Tryd.ntmps18
    go_wp2_with (first | ((with_reducible refine gate_dst (N := 7) rfl ?_); refine Kd.R_lit k35 _ 35 ?hg (N := 7) ?hd (xs := ([(⟨(⟨#[97, 46, 120]⟩ : ByteArray), 60, 3, false, false⟩ : S35), (⟨(⟨#[98, 46, 120]⟩ : ByteArray), 50, 1, false, false⟩ : S35), (⟨(⟨#[99, 46, 120]⟩ : ByteArray), 20, 0, false, true⟩ : S35)] : List (S35))) (inner := [.string (⟨#[97, 46, 120]⟩ : ByteArray), .int .i64 60, .int .i64 3, .bool false, .bool false, .string (⟨#[98, 46, 120]⟩ : ByteArray), .int .i64 50, .int .i64 1, .bool false, .bool false, .string (⟨#[99, 46, 120]⟩ : ByteArray), .int .i64 20, .int .i64 0, .bool false, .bool true]) (ok := fun _ => True) (okp := fun _ => True) ?hr ?hp (fun _ hk => hk) trivial (Below.refl _ _) (Nat.le_refl _) (by simp) ?_; (case hd => rfl); (case hg => rfl); (case hr => first | (go_simp; done) | (go_simp; rfl)); (case hp => exact (Reps.c5 (show Kd.M k35 _ _ _ (⟨(⟨#[97, 46, 120]⟩ : ByteArray), 60, 3, false, false⟩ : S35) [.string (⟨#[97, 46, 120]⟩ : ByteArray), .int .i64 60, .int .i64 3, .bool false, .bool false] from (k35_mkM _ _ _ (⟨(⟨#[97, 46, 120]⟩ : ByteArray), 60, 3, false, false⟩ : S35) )) (Reps.c5 (show Kd.M k35 _ _ _ (⟨(⟨#[98, 46, 120]⟩ : ByteArray), 50, 1, false, false⟩ : S35) [.string (⟨#[98, 46, 120]⟩ : ByteArray), .int .i64 50, .int .i64 1, .bool false, .bool false] from (k35_mkM _ _ _ (⟨(⟨#[98, 46, 120]⟩ : ByteArray), 50, 1, false, false⟩ : S35) )) (Reps.c5 (show Kd.M k35 _ _ _ (⟨(⟨#[99, 46, 120]⟩ : ByteArray), 20, 0, false, true⟩ : S35) [.string (⟨#[99, 46, 120]⟩ : ByteArray), .int .i64 20, .int .i64 0, .bool false, .bool true] from (k35_mkM _ _ _ (⟨(⟨#[99, 46, 120]⟩ : ByteArray), 20, 0, false, true⟩ : S35) )) (Reps.none _ _))))); intro v175 w15 ho16 hb hg_ hnew_; clear hg_ hnew_; (first | rw [← Ny174.out] at ho16 | (simp only [Int.reduceToNat] at ho16; rw [← Ny174.out] at ho16)); have n0_ := Aside0.mk (Kd.R_lower ho16 (sizU HB.out)); have n1_ := Aside0.mk (below_step (belU HB.out) hb); clear HB; have HO176 := n0_; have HB := n1_; clear n0_ n1_; clear hb ho16; obtain ⟨Ao17, co17, eo17⟩ := Kd.R_slice HO176.out; subst eo17) | ((with_reducible refine gate_callee (f := 19) rfl ?_); refine goesL_ (some 8) rfl rfl Tryd.func19 (by kernel_rfl) rfl #[.slice Ao17 y174.length co17, .int .i64 130, .int .i64 30] rfl (by (try simp only [List.map_toArray, List.map_cons, List.map_nil]); first | done | rfl | (simp only [List.length_drop, List.length_take]; rfl)) ?_; (with_reducible refine (lru_Victims.calls _ _ y174 130 30 t177 t178 _ ?side1 ?side2 A1.out).mono ?_); (case side1 => exact CU (Kd.R_reads' HO176.out).2.2); (case side2 => exact (Kd.R_reads' HO176.out).2.1); rintro e w18 ⟨v179, rfl, ho0, hb⟩; refine ⟨_, rfl, ?_⟩; have n0_ := Aside0.mk (Kd.R_below (RU HO176.out) hb); have n1_ := Aside0.mk (Kd.R_lower ho0 (sizU HB.out)); have n2_ := Aside0.mk (below_step (belU HB.out) hb); clear HO176; clear HB; have HO176 := n0_; have HO180 := n1_; have HB := n2_; clear n0_ n1_ n2_; (try clear hb); (try clear hb2); (try clear hk); (try clear hi); (try clear ho0); obtain ⟨Ao19, co19, eo19⟩ := Kd.R_slice HO180.out; subst eo19))
    go_ret
    exact ⟨by first | rfl | (simp [errW_none, errW_some] <;> rfl) | (simp [*, errW_none, errW_some] <;> rfl), belU HB.out⟩

end Go.Proofs.YtdggdmdefmljlaaDoor.Q

namespace Go.Proofs.YtdggdmdefmljlaaDoor.Q
open Go Go.Proofs Go.Shelf Go.RowKit Go.Lib Go.Sort Go.Proofs.YtdggdmdefmljlaaDoorP Go.Proofs.YtdggdmdefmljlaaDoorK Go.Proofs.YtdggdmdefmljlaaDoorW.PrintWords Go.Proofs.YtdggdmdefmljlaaDoorW.PrintLast Go.Proofs.YtdggdmdefmljlaaDoorW.PrintMore
set_option linter.unusedSimpArgs false
set_option linter.unusedVariables false
/-! ### What the laws make of their input, plain -/
def cutP (x : S35) : S35 := ⟨x.f0.extract 0 (mn (x.f0.size : Int) 110).toNat, x.f1, x.f2, x.f3, x.f4⟩
def fewL (l : List S35) : List S35 := (l.take 40).map cutP
theorem few_loop (l : List S35) (d : Nat) : ∀ (k i : Nat), i + d = min l.length 40 → d < k → aquiferlaw26_few.l0 k l ((l.take i).map cutP) (i : Int) = some (fewL l) := by
  induction d with
  | zero =>
    intro k i h hk
    obtain ⟨k, rfl⟩ : ∃ q, k = q + 1 := ⟨k - 1, by omega⟩
    unfold aquiferlaw26_few.l0
    have he : (l.take i).map cutP = fewL l := by
      unfold fewL
      rcases Nat.le_total l.length 40 with h1 | h1
      · rw [List.take_of_length_le (show l.length ≤ i by omega), List.take_of_length_le h1]
      · have : i = 40 := by omega
        rw [this]
    by_cases h1 : (i : Int) < (l.length : Int)
    · rw [if_pos h1, if_neg (by omega), he]
    · rw [if_neg h1, he]
  | succ d ih =>
    intro k i h hk
    obtain ⟨k, rfl⟩ : ∃ q, k = q + 1 := ⟨k - 1, by omega⟩
    unfold aquiferlaw26_few.l0
    have hi : i < l.length := by omega
    have hr : rd_T35 l (i : Int) = l[i] := by
      unfold rd_T35
      simp [hi]
    have hm : 0 ≤ mn ((l[i].f0).size : Int) 110 ∧ mn ((l[i].f0).size : Int) 110 ≤ ((l[i].f0).size : Int) := by
      unfold mn
      split <;> omega
    have hl : ((l.take i).map cutP).length < 3518437208883 := by
      rw [List.length_map, List.length_take]
      omega
    rw [if_pos (by omega), if_pos (by omega), if_pos (by omega), hr, if_pos hm.1, if_pos hm.2, if_pos hl]
    have hw : wrap64 ((i : Int) + 1) = ((i + 1 : Nat) : Int) := by unfold wrap64; omega
    have e : (l.take i).map cutP ++ [(⟨(l[i].f0).extract 0 (mn ((l[i].f0).size : Int) 110).toNat, l[i].f1, l[i].f2, l[i].f3, l[i].f4⟩ : S35)] = (l.take (i + 1)).map cutP := by
      rw [List.take_succ_eq_append_getElem hi, List.map_append]
      rfl
    rw [hw, e]
    exact ih k (i + 1) (by omega) (by omega)
theorem few_fn (l : List S35) (k : Nat) (hk : 41 ≤ k) : aquiferlaw26_few.f k l = some (fewL l) := by
  have := few_loop l (min l.length 40) k 0 (by omega) (by omega)
  simpa [aquiferlaw26_few.f] using this
theorem few_short (l : List S35) : short (fewL l) = true := by
  unfold short fewL
  simp only [Bool.and_eq_true, decide_eq_true_eq, List.all_eq_true, List.length_map, List.length_take]
  refine ⟨by omega, fun c hc => ?_⟩
  obtain ⟨x, _, rfl⟩ := List.mem_map.1 hc
  show (x.f0.extract 0 (mn (x.f0.size : Int) 110).toNat).size ≤ 65536
  rw [ByteArray.size_extract]
  unfold mn
  split <;> omega
theorem check_fn {l : List S35} (h : short l = true) : lru_Check.f l = some (checkS l) := by unfold lru_Check.f; rw [if_pos h]
theorem bytes_fn {l : List S35} (h : short l = true) : lru_Bytes.f l = some (totalS (fun _ => true) l) := by unfold lru_Bytes.f; rw [if_pos h]
theorem fixed_fn {l : List S35} (h : short l = true) : lru_Fixed.f l = some (totalS fixedC l) := by unfold lru_Fixed.f; rw [if_pos h]
theorem order_fn {l : List S35} (h : short l = true) : lru_Order.f l = some (orderS l) := by unfold lru_Order.f; rw [if_pos h]
theorem victims_fn {l : List S35} (h : short l = true) (q n : Int) : lru_Victims.f l q n = some (victimsS l q n) := by unfold lru_Victims.f; rw [if_pos h]
theorem spare_fn {l : List S35} (h : short l = true) (q : Int) : lru_Spare.f l q = some (spareS l q) := by unfold lru_Spare.f; rw [if_pos h]
theorem works_fn : aquiferlaw26_works.f = some true := by decide +kernel
/-- With more room no more go. -/
theorem vicGo_mono (l : List S35) : ∀ (q b m : Int), 0 ≤ m → (vicGo (q + m) b l).length ≤ (vicGo q b l).length := by
  induction l with
  | nil => intro q b m _; exact Nat.le_refl _
  | cons c l ih =>
    intro q b m hm
    simp only [vicGo]
    by_cases h1 : b ≤ q
    · rw [if_pos h1, if_pos (by omega)]
      exact Nat.le_refl _
    · rw [if_neg h1]
      by_cases h2 : b ≤ q + m
      · rw [if_pos h2]
        exact Nat.zero_le _
      · rw [if_neg h2, List.length_cons, List.length_cons]
        have := ih q (b - c.f1) m hm
        omega
theorem boundB_iff (q : Int) : boundB q = true ↔ 0 ≤ q ∧ q ≤ 4611686018427387904 := by
  unfold boundB
  simp
end Go.Proofs.YtdggdmdefmljlaaDoor.Q
