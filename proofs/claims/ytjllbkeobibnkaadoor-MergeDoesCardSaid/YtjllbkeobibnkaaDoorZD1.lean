/- Parts of the proof: K3, K6, K0, K1, K2, K7, K8, KB, Q0, HTyp, HMem, K4, KS, HFind, HAlike, HAt, K9, HApp, HStep, HApp33, HOpen, PP, PK, HCut, HSplit, HLib, HKind, HBelow, KA, HCmp, PO, PScope, PL, KG. -/
import Derived.Test.YtjllbkeobibnkaaDoorWMore
import Derived.Laws.Rows
import Derived.WalkKit
import Derived.Test.YtjllbkeobibnkaaDoorWWords
import Derived.Deep.Slices
import Derived.ChangeArms
import Derived.SizedLaws
import Derived.Test.YtjllbkeobibnkaaDoorWEqStruct
import Derived.OpenShut
import Derived.ChangeKeysEq
import Derived.Laws.IdiomStrings
import Derived.Deep.QuietTactic
import Derived.Laws.CopyRow
import Derived.Test.YtjllbkeobibnkaaDoorProg
import Derived.Below
import Derived.Deep.Draws
import Derived.Deep.AppendLies
import Derived.Maps.AppendAt
import Derived.OwnWalk
import Derived.Laws.BytesArg
import Derived.Laws.MakeOwn
import Derived.Laws.OwnMore
import Derived.Deep.OwnRows
import Derived.Tactics
import Derived.Lib.ConvBytes
import Derived.Laws.Slices
import Derived.KernelRfl
import Derived.RowKit3
import Derived.Deep.LoopGhost
import Derived.BigQuiet
import Derived.WideLaws
import Derived.Deep.DeepCutAuto
import Derived.Deep.CutBlock
import Derived.Deep.RegionHeld3
import Derived.Lib.AppendStr
import Derived.ArgAppend
import Derived.Laws.IdiomCopy
import Derived.OrdersHeld
import Derived.Laws.BitsLemmas
import Derived.RowKit
import Derived.Test.YtjllbkeobibnkaaDoorWLast
import Derived.Test.YtjllbkeobibnkaaDoorWTab
import Derived.Test.YtjllbkeobibnkaaDoorWQPut
import Derived.Test.YtjllbkeobibnkaaDoorWApart
import Derived.Test.YtjllbkeobibnkaaDoorWArr
import Derived.Test.YtjllbkeobibnkaaDoorWZeros
import Derived.Test.YtjllbkeobibnkaaDoorWFoot
import Derived.Test.YtjllbkeobibnkaaDoorWKept
import Derived.Test.YtjllbkeobibnkaaDoorWShare
import Derived.Test.YtjllbkeobibnkaaDoorWN
import Derived.Test.YtjllbkeobibnkaaDoorWFootNe
import Derived.Test.YtjllbkeobibnkaaDoorWRepsOne
import Derived.Test.YtjllbkeobibnkaaDoorWInv
import Derived.Test.YtjllbkeobibnkaaDoorWInvWords
import Derived.Test.YtjllbkeobibnkaaDoorWNEv
import Derived.Shelf.Abstract
import Derived.Lib.BufferWrite
import Derived.Lib.SplitLaws
import Derived.Lib.Bytealg
import Derived.Lib.IndexBytes
import Derived.Lib.IndexMore
import Derived.Shelf.Strings.Cut
import Derived.IntWalk
import Derived.Shelf.Strings.Split
import Derived.Shelf.Small.Strs
import Derived.Shelf.Strings.Search1
import Derived.Shelf.Strings.LastIndex
import Derived.Shelf.SlicesG.Cmp
import Derived.Sort.Grow
import Derived.RangeFuncNested
import Derived.RangeFuncBound
import Derived.RangeFuncCalls
import Derived.RangeFuncLeaves
import Derived.Shelf.RegionOpen
import Derived.OwnWalkIn
import Derived.TacticsInMore
import Derived.LoopNIn
import Derived.LoopIn
import Derived.Shelf.SlSortCmp.WholeK
set_option linter.unusedVariables false
set_option linter.unusedSimpArgs false
namespace Go.Proofs.YtjllbkeobibnkaaDoorK
open Go Go.RowKit Go.Proofs.YtjllbkeobibnkaaDoorW.PrintWords
/-! A whole box (a struct's, an array's) is read, or written, at once. -/
theorem grown_setRow (w : World) (g : Nat) (cs : Array Value) : w.grownBy (w.setRow g cs) (some g) := by
  constructor
  all_goals first | rfl | (simp; done) | skip
  all_goals intro k hk hne
  all_goals exact setRow_other w g k cs (by intro e; exact hne (by rw [e]))
theorem below_box {w W W1 : World} {g : Nat} (h : Below w.heap.size w W) (hg : W.grownBy W1 (some g)) (hb : w.heap.size ≤ g) : Below w.heap.size w W1 :=
  h.grown hg h.size (fun k hk => by cases hk; exact hb)
section
variable {P : Program} {ops : Array Oper} {rest : List Oper} {o : Oper} {a : Act} {W : World} {Q : Exit → Act → World → Prop}
theorem box_store (hgd : o.guard = none) (hN : o.dst = none) (ty : TypeId) (x y : Operand) (ho : o.op = .store ty x y)
    {g : Nat} {t : TypeId} {old : Array Value} (hg : W.heap[g]? = some (.cells old t (0, 0))) (cells : Array Value) (hx : a.eval x = .pointer (some ⟨g, 0, none⟩)) (hy : a.eval y = .agg cells)
    (hi : (P.info? ty).map (·.size) = some cells.size) (hold : old.size = cells.size) (h1 : cells.toList.all (·.oneCell') = true)
    (h : ∀ w1, w1.heap[g]? = some (.cells cells t (0, 0)) → W.grownBy w1 (some g) → wpList P ops Q rest a w1) : wpList P ops Q (o :: rest) a W := by
  refine wpList_store_row hgd ty x y ho g cells hx hy t old hg hi hold (by rw [← Array.all_toList]; exact h1) ?_
  rw [hN]
  exact h _ (setRow_heap W g old cells t (0, 0) hg) (grown_setRow W g cells)
theorem box_load (hgd : o.guard = none) (ty : TypeId) (x : Operand) (ho : o.op = .load ty x) {g : Nat} {t : TypeId} {cs : Array Value} (hg : W.heap[g]? = some (.cells cs t (0, 0)))
    (hx : a.eval x = .pointer (some ⟨g, 0, none⟩)) {d : TypeDesc} (hu : P.underlying ty = some d) (hd : (match d with | .struct _ | .array _ _ => true | _ => false) = true)
    (hi : (P.info? ty).map (·.size) = some cs.size) (h : wpList P ops Q rest (a.put o.dst (.agg cs)) W) : wpList P ops Q (o :: rest) a W :=
  wpList_load_row hgd ty x ho g hx t cs (0, 0) d hg hu hd hi h
theorem results_row_tmp {fn : Func} {p q : Tmp} {ty : TypeId} (h : fn.results = #[.cell p ty, .tmp q]) (tmps : Array Value) (w : World) {g : Nat} {t : TypeId} {cs : Array Value} {d : TypeDesc} (v : Value)
    (hg : w.heap[g]? = some (.cells cs t (0, 0))) (hp : tmps.getD p undef = .pointer (some ⟨g, 0, none⟩)) (hq : tmps.getD q undef = v)
    (hu : P.underlying ty = some d) (hd : (match d with | .struct _ | .array _ _ => true | _ => false) = true) (hi : (P.info? ty).map (·.size) = some cs.size) :
    (results fn tmps).run P w = .ok (.tuple #[.agg cs, v]) w := by
  have hp' : tmps[p]?.getD undef = .pointer (some ⟨g, 0, none⟩) := by simpa using hp
  have hq' : tmps[q]?.getD undef = v := by simpa using hq
  simp [results, h, hp', hq', asAddr, run_loadVar_row w g t ty cs (0, 0) d hg hu hd hi]
end
end Go.Proofs.YtjllbkeobibnkaaDoorK

namespace Go.Proofs.YtjllbkeobibnkaaDoorK
open Go Go.RowKit Go.Proofs.YtjllbkeobibnkaaDoorW.PrintWords
/-! What a walk keeps, by classes: each world tells the one it came of; what was known of a block, or of a row, is known at every later world without a word. -/
/-- Which of the elder blocks may have been written: none, one, or all from b on. -/
inductive Touch where
  | none
  | row (g : Nat)
  | above (b : Nat)
/-- Block k was not. -/
def Touch.Ok : Touch → Nat → Prop
  | .none, _ => True
  | .row g, k => k ≠ g
  | .above b, k => k < b
structure Kept0 (W W' : World) (T : Touch) : Prop where
  os : W'.os = W.os
  tape : W'.tape = W.tape
  output : W'.output = W.output
  size : W.heap.size ≤ W'.heap.size
  block : ∀ k, k < W.heap.size → T.Ok k → W'.heap[k]? = W.heap[k]?
/-- W' came of W. -/
class Prev (W' : World) (W : outParam World) (T : outParam Touch) : Prop where
  out : Kept0 W W' T
theorem kept_below {W W' : World} (h : Below W.heap.size W W') : Kept0 W W' .none := ⟨h.os, h.tape, h.output, h.size, fun k hk _ => h.block k hk⟩
theorem kept_above {W W' : World} {b : Nat} (h : Below b W W') : Kept0 W W' (.above b) := ⟨h.os, h.tape, h.output, h.size, fun k _ hk => h.block k hk⟩
theorem kept_row {W W' : World} {g : Nat} (h : W.grownBy W' (some g)) : Kept0 W W' (.row g) := ⟨h.os, h.tape, h.output, h.size, fun k hk hne => h.block k hk (fun e => hne (Option.some.inj e))⟩
theorem kept_grown {W W' : World} (h : W.grownBy W' Option.none) : Kept0 W W' .none := ⟨h.os, h.tape, h.output, h.size, fun k hk _ => h.block k hk (by simp)⟩
instance (W : World) (o : Obj) : Prev (W.alloc o) W .none := ⟨kept_grown (World.grownBy_alloc W o Option.none)⟩
instance (W : World) : Prev W.drew W .none := ⟨⟨rfl, rfl, rfl, Nat.le_refl _, fun _ _ _ => rfl⟩⟩
instance (W : World) (n : Nat) : Prev (W.drewN n) W .none := ⟨kept_below (pw_below_drewN (Below.refl W.heap.size W) n)⟩
instance (W : World) (g j : Nat) (v : Value) : Prev (W.setCell ⟨g, j, Option.none⟩ v) W (.row g) := by
  have h := (Below.refl g W).setCell (p := ⟨g, j, Option.none⟩) (Nat.le_refl _) v
  exact ⟨⟨h.os, h.tape, h.output, by simp [World.setCell], fun k _ hne => Below.heap_setCell W ⟨g, j, Option.none⟩ v k hne⟩⟩
theorem prev_call {W W1 : World} (h : Below W.heap.size W W1) : Prev W1 W .none := ⟨kept_below h⟩
theorem prev_above {W W1 : World} {b : Nat} (h : Below b W W1) : Prev W1 W (.above b) := ⟨kept_above h⟩
theorem prev_row {W W1 : World} {g : Nat} (h : W.grownBy W1 (some g)) : Prev W1 W (.row g) := ⟨kept_row h⟩
/-- The row that an append may have written. -/
def touchOf : Option Nat → Touch
  | Option.none => .none
  | some g => .row g
theorem prev_grown {W W1 : World} {row : Option Nat} (h : W.grownBy W1 row) : Prev W1 W (touchOf row) := by
  cases row with
  | none => exact ⟨kept_grown h⟩
  | some g => exact prev_row h
/-- Block g is not what was written. -/
class Apart (g : Nat) (T : Touch) : Prop where
  out : T.Ok g
instance (g : Nat) : Apart g .none := ⟨trivial⟩
theorem apart_ne {g g' : Nat} (h : g ≠ g') : Apart g (.row g') := ⟨h⟩
theorem apart_lt {g b : Nat} (h : g < b) : Apart g (.above b) := ⟨h⟩
instance (n : Nat) : Apart n (.above (n + 1)) := ⟨Nat.lt_succ_self n⟩
instance (n : Nat) : Apart n (.above (n + 2)) := ⟨by show n < n + 2; omega⟩
instance (n : Nat) : Apart n (.row (n + 1)) := ⟨Nat.ne_of_lt (Nat.lt_succ_self n)⟩
/-- What was written is b's own: block b or a later one. -/
class OwnB (b : Nat) (T : Touch) : Prop where
  out : ∀ k, k < b → T.Ok k
instance (b : Nat) : OwnB b .none := ⟨fun _ _ => trivial⟩
theorem own_row {b g : Nat} (h : b ≤ g) : OwnB b (.row g) := ⟨fun k hk e => by subst e; omega⟩
theorem own_above {b g : Nat} (h : b ≤ g) : OwnB b (.above g) := ⟨fun _ hk => Nat.lt_of_lt_of_le hk h⟩
instance (b : Nat) : OwnB b (.row b) := own_row (Nat.le_refl b)
instance (b n : Nat) : OwnB b (.row (b + n)) := own_row (Nat.le_add_right b n)
instance (b : Nat) : OwnB b (.above b) := own_above (Nat.le_refl b)
instance (b n : Nat) : OwnB b (.above (b + n)) := own_above (Nat.le_add_right b n)
/-- Below b nothing is turned. -/
class Bel (b : Nat) (W W' : World) : Prop where
  out : b ≤ W.heap.size → Below b W W'
instance (b : Nat) (W : World) : Bel b W W := ⟨fun _ => Below.refl _ _⟩
instance (b : Nat) (W W1 W' : World) (T : Touch) [p : Prev W' W1 T] [h : Bel b W W1] [o : OwnB b T] : Bel b W W' :=
  ⟨fun hb => by
    have h1 := h.out hb
    have h2 := p.out
    refine h1.trans ⟨h2.os, h2.tape, h2.output, h2.size, fun k hk => h2.block k (by have := h1.size; omega) (o.out k hk)⟩⟩
theorem bel (w W : World) [h : Bel w.heap.size w W] : Below w.heap.size w W := h.out (Nat.le_refl _)
theorem siz (w W : World) [h : Bel w.heap.size w W] : w.heap.size ≤ W.heap.size := (bel w W).size
/-- How large the heap is at least. -/
class Size (n : Nat) (W : World) : Prop where
  out : n ≤ W.heap.size
instance (W : World) : Size W.heap.size W := ⟨Nat.le_refl _⟩
instance (priority := low) (n : Nat) (W W' : World) (T : Touch) [p : Prev W' W T] [h : Size n W] : Size n W' := ⟨Nat.le_trans h.out p.out.size⟩
instance (W : World) (o : Obj) : Size (W.heap.size + 1) (W.alloc o) := ⟨by rw [World.size_alloc]; exact Nat.le_refl _⟩
/-- Block g of world W is o. -/
class Holds (W : World) (g : Nat) (o : outParam Obj) : Prop where
  out : W.heap[g]? = some o
instance holds_new (W : World) (o : Obj) : Holds (W.alloc o) W.heap.size o := ⟨blk_new W o⟩
instance (W : World) (o1 o : Obj) : Holds ((W.alloc o1).alloc o) (W.heap.size + 1) o := ⟨by have := blk_new (W.alloc o1) o; rwa [World.size_alloc] at this⟩
instance (W : World) (o1 o2 o : Obj) : Holds (((W.alloc o1).alloc o2).alloc o) (W.heap.size + 2) o := ⟨by have := blk_new ((W.alloc o1).alloc o2) o; rwa [World.size_alloc, World.size_alloc] at this⟩
instance (priority := low) holds_step (W' W : World) (T : Touch) (g : Nat) (o : Obj) [p : Prev W' W T] [a : Apart g T] [h : Holds W g o] : Holds W' g o := ⟨(p.out.block g (blk_lt h.out) a.out).trans h.out⟩
instance (W : World) (g j : Nat) (v : Value) (cs : Array Value) (t : TypeId) [h : Holds W g (.cells cs t (0, 0))] : Holds (W.setCell ⟨g, j, Option.none⟩ v) g (.cells (cs.setIfInBounds j v) t (0, 0)) := ⟨blk_set h.out j v⟩
theorem held {W : World} {g : Nat} {o : Obj} [h : Holds W g o] : W.heap[g]? = some o := h.out
theorem cell_held {W : World} {g j : Nat} {cs : Array Value} {t : TypeId} [h : Holds W g (.cells cs t (0, 0))] : W.cell? ⟨g, j, Option.none⟩ = cs[j]? := blk_cell h.out j
theorem frozen_held {W : World} {g j : Nat} {cs : Array Value} {t : TypeId} [h : Holds W g (.cells cs t (0, 0))] : W.frozen? ⟨g, j, Option.none⟩ = false := blk_frozen h.out j
theorem held_lt {W : World} {g : Nat} {o : Obj} [h : Holds W g o] : g < W.heap.size := blk_lt h.out
/-- No block of the types L was written. -/
class NoRow (L : List Nat) (W : World) (T : Touch) : Prop where
  out : ∀ k t cells, W.heap[k]? = some (.cells cells t (0, 0)) → t ∈ L → T.Ok k
instance (L : List Nat) (W : World) : NoRow L W .none := ⟨fun _ _ _ _ _ => trivial⟩
theorem noRow_row {L : List Nat} {W : World} {g t : Nat} {cs : Array Value} (h : W.heap[g]? = some (.cells cs t (0, 0))) (hL : ∀ q, q ∈ L → q ≠ t) : NoRow L W (.row g) :=
  ⟨fun k t' cells hc ht e => by
    subst e
    rw [hc] at h
    injection h with h
    injection h with _ h
    exact hL t' ht h⟩
/-- Rows of the types L are kept. -/
class Rows0 (L : List Nat) (W W' : World) : Prop where
  out : ∀ {α : Type} (d : Kd α) (e base : Nat) (v : Value) (xs : List α), e :: d.E = L → d.R e W base (fun _ => True) v xs → d.R e W' base (fun _ => True) v xs
instance (L : List Nat) (W : World) : Rows0 L W W := ⟨fun _ _ _ _ _ _ h => h⟩
instance (L : List Nat) (W W1 W' : World) (T : Touch) [p : Prev W' W1 T] [h : Rows0 L W W1] [o : NoRow L W1 T] : Rows0 L W W' :=
  ⟨fun d e base v xs hL hr => by
    have h1 := h.out d e base v xs hL hr
    refine Kd.R_mono (Kd.R_step (Kd.R_bound h1) (fun k hk hlt => ?_)) (fun _ hk => hk.1)
    obtain ⟨_, _, _, q, hq, cells, hc⟩ := hk
    exact p.out.block k hlt (o.out k q cells hc (by rw [← hL]; exact hq))⟩
theorem apart_R {α : Type} {d : Kd α} {e base : Nat} {W : World} {v : Value} {xs : List α} {ok : Nat → Prop} (h : d.R e W base ok v xs) {g t : Nat} {cs : Array Value} (hg : W.heap[g]? = some (.cells cs t (0, 0))) (ht : e ≠ t) : Apart g (touchOf v.ownBlock) := by
  have h1 := Kd.R_ne h hg ht
  constructor
  cases hv : v.ownBlock with
  | none => trivial
  | some k => exact fun he => h1 (by rw [hv, he])
theorem ownB_R {α : Type} {d : Kd α} {e base b : Nat} {W : World} {v : Value} {xs : List α} {ok : Nat → Prop} (h : d.R e W base ok v xs) (hb : b ≤ base) : OwnB b (touchOf v.ownBlock) := by
  have h1 := Kd.R_base h
  cases hv : v.ownBlock with
  | none => exact ⟨fun _ _ => trivial⟩
  | some k => exact own_row (Nat.le_trans hb (h1 k hv))
theorem noRow_R {α : Type} {d : Kd α} {e base : Nat} {W : World} {v : Value} {xs : List α} {ok : Nat → Prop} {L : List Nat} (h : d.R e W base ok v xs) (hL : ∀ q, q ∈ L → q ≠ e) : NoRow L W (touchOf v.ownBlock) := by
  have h1 := Kd.R_typed h
  cases hv : v.ownBlock with
  | none => exact ⟨fun _ _ _ _ _ => trivial⟩
  | some k =>
    obtain ⟨cells, hc⟩ := h1 k hv
    exact noRow_row hc hL
theorem rowK {α : Type} {d : Kd α} {e base : Nat} {W W' : World} {v : Value} {xs : List α} (h : d.R e W base (fun _ => True) v xs) [r : Rows0 (e :: d.E) W W'] : d.R e W' base (fun _ => True) v xs := r.out d e base v xs rfl h
end Go.Proofs.YtjllbkeobibnkaaDoorK

namespace Go.Proofs.YtjllbkeobibnkaaDoorK
open Go
theorem isSome_set (c : Array Value) (i j : Nat) (v : Value) : (c.setIfInBounds i v)[j]?.isSome = c[j]?.isSome := by
  rw [Array.getElem?_setIfInBounds]
  split
  · rename_i h
    subst h
    by_cases h2 : i < c.size
    · simp [h2]
    · rw [if_neg h2, Array.getElem?_eq_none (by omega)]
  · rfl
theorem isSome_setCell (w : World) (a b : Addr) (v : Value) : ((w.setCell a v).cell? b).isSome = (w.cell? b).isSome := by
  simp only [World.setCell, World.cell?, Array.getElem?_modify]
  by_cases hb : a.block = b.block
  · simp only [hb, if_true]
    cases hh : w.heap[b.block]? with
    | none => simp
    | some x =>
      cases x <;> simp
      split
      · rfl
      · split
        · rfl
        · exact isSome_set _ _ _ _
  · simp only [if_neg hb]
end Go.Proofs.YtjllbkeobibnkaaDoorK

namespace Go.Proofs.YtjllbkeobibnkaaDoorK
open Go Go.RowKit Go.Proofs.YtjllbkeobibnkaaDoorW.PrintWords
section
variable {P : Program} {ops : Array Oper} {rest : List Oper} {o : Oper} {a : Act} {Q : Exit → Act → World → Prop} {Kc : Act → World → Prop}

theorem run_append_string_at (W : World) (base : Nat) (t u ty e : TypeId) (i : TypeInfo) (ht : P.underlying t = some (.slice e)) (hu : P.underlying u = some .string) (hi : P.info? e = some i) (hz : i.zero = some (.int .u8 0)) (hsize : i.size = 1) (hby : i.bytes = 1)
    (v : Value) (n : Nat) (xs : List Value) (hown : W.ownsRow base e 1 v n xs) (s : ByteArray) (hb : n + s.size ≤ 140737488355328) (hbase : base ≤ W.heap.size) :
    ∃ v1 w1, (Builtin.append_ #[t, u] ty #[v, .string s]).run P W = .ok v1 w1 ∧ w1.ownsRow base e 1 v1 (n + s.size) (xs ++ Lib.strCells s) ∧ W.grownBy w1 v.ownBlock ∧ (v1.ownBlock = v.ownBlock ∨ ∃ b, v1.ownBlock = some b ∧ W.heap.size ≤ b) := by
  have h63 : n + s.size ≤ maxLen := by simp only [maxLen]; omega
  obtain ⟨v1, w1, hr, h2, h3, h4⟩ := Lib.run_append_own_string (P := P) W base t u ty e i ht hu hi hz hsize hby v n xs hown s h63 hb hbase
  refine ⟨v1, w1, hr, h2, h3, ?_⟩
  rcases hown.2 with ⟨rfl, h0⟩ | ⟨g, cap, cur, rfl, hbg, hg, hnc, hcm, hcs, htake⟩
  · by_cases hm : s.size = 0
    · exact .inl (by rw [h4.2 ⟨rfl, hm⟩])
    · have hr' := run_append_nil_string (P := P) W t u ty e i (.int .u8 0) ht hu hi hz s (by omega) (by omega) (by rw [hby]; omega)
      have hj := hr.symm.trans hr'
      injection hj with hv _
      exact .inr ⟨W.heap.size, by rw [hv]; rfl, Nat.le_refl _⟩
  · by_cases hroom : n + s.size ≤ cap
    · have hcs' : cur.size = cap := by simpa using hcs
      have hr' := Lib.run_append_room_string (P := P) W t u ty e i ht hu hi hsize g n cap cur hg s hroom (by omega)
      have hj := hr.symm.trans hr'
      injection hj with hv _
      exact .inl (by rw [hv]; rfl)
    · have holds : ∀ j x, xs[j]? = some x → W.cell? ((⟨g, 0, none⟩ : Addr).add j) = some x := hown.cells (g := g) rfl
      have hxl : xs.length = n := by simpa using hown.1
      have hr' := Lib.run_append_grow_string (P := P) W t u ty e i (.int .u8 0) ht hu hi hz ⟨g, 0, none⟩ n cap xs (by rw [hsize]; simpa using hxl) holds s (by omega) (by omega) (by rw [hby]; exact growslice_fits (by omega) (by omega))
      have hj := hr.symm.trans hr'
      injection hj with hv _
      exact .inr ⟨W.heap.size, by rw [hv]; rfl, Nat.le_refl _⟩

theorem R_of_string {W w1 : World} {base : Nat} {e : TypeId} {ok : Nat → Prop} {v v1 : Value} {xs : List Int} {y : ByteArray} (h0 : ∀ k, v.ownBlock = some k → ok k) (hfresh : ∀ k, W.heap.size ≤ k → ok k)
    (h2 : w1.ownsRow base e 1 v1 (xs.length + y.size) (nums .u8 xs ++ Lib.strCells y)) (hat : v1.ownBlock = v.ownBlock ∨ ∃ b, v1.ownBlock = some b ∧ W.heap.size ≤ b) :
    (Kd.int .u8).R e w1 base ok v1 (xs ++ bytesOf y) := by
  have hl2 : (xs ++ bytesOf y).length = xs.length + y.size := by rw [List.length_append, bytesOf_length]
  have hc : nums .u8 (xs ++ bytesOf y) = nums .u8 xs ++ Lib.strCells y := by
    rw [nums_append]
    congr 1
    simp [nums, bytesOf, Lib.strCells]
  refine Kd.R_of_own (h1 := fun _ => rfl) ?_ ?_
  · rw [hl2]
    have : encs (Value.int .u8) (xs ++ bytesOf y) = nums .u8 (xs ++ bytesOf y) := rfl
    rw [this, hc]
    exact h2
  · intro k hk
    rcases hat with hat | ⟨b, hb, hle⟩
    · exact h0 k (hat ▸ hk)
    · rw [hb] at hk
      injection hk with hk
      exact hfresh k (by omega)

theorem R_append_str {w0 W : World} (base : Nat) (hgd : o.guard = none) (s x : Operand) (t u e : TypeId)
    (ho : o.op = .call { callee := .builtin .append, args := #[s, x], argTypes := #[t, u] })
    (ht : P.underlying t = some (.slice e)) (hu : P.underlying u = some .string) (hinfo : (P.info? e).map (fun i => (i.zero, i.size, i.bytes)) = some (some (.int .u8 0), 1, 1))
    (v : Value) (xs : List Int) (y : ByteArray) (ok : Nat → Prop) (hs : a.eval s = v) (hx : a.eval x = .string y) (hfresh : ∀ k, W.heap.size ≤ k → ok k)
    (HO : (Kd.int .u8).R e W base ok v xs) (HB : Below base w0 W) (hbase : base ≤ W.heap.size) (hl : xs.length + y.size ≤ 140737488355328)
    (h : ∀ v1 w1, (Kd.int .u8).R e w1 base ok v1 (xs ++ bytesOf y) → Below base w0 w1 → W.grownBy w1 v.ownBlock → (v1.ownBlock = v.ownBlock ∨ ∃ b, v1.ownBlock = some b ∧ W.heap.size ≤ b) → wpList P ops Q rest (a.put o.dst v1) w1) :
    wpList P ops Q (o :: rest) a W := by
  obtain ⟨i0, hi, hzz⟩ := Option.map_eq_some_iff.1 hinfo
  simp only [Prod.mk.injEq] at hzz
  obtain ⟨hz0, hz1, hz2⟩ := hzz
  have hown := Kd.own_of_R HO
  refine wpList_plain hgd fun K hK => ?_
  obtain ⟨v1, w1, hr, h2, h3, hat⟩ := run_append_string_at (P := P) W base t u o.type e i0 ht hu hi hz0 hz1 hz2 v xs.length (encs (Value.int .u8) xs) hown y hl hbase
  unfold Oper.wp execOp
  simp only [ho, resolve, invoke, builtin, Sem.run_bind, Sem.run_pure, Result.andThen_ok, List.map_toArray, List.map_cons, List.map_nil, hs, hx, hr]
  exact hK _ _ (h v1 w1 (R_of_string HO.1 hfresh h2 hat) (HB.grown h3 hbase (own_base hown)) h3 hat)

theorem R_append_str_step {w0 W : World} (base : Nat) (hw : Region.wanted o (yielded ops a.tmps) = true) (s x : Operand) (t u e : TypeId)
    (ho : o.op = .call { callee := .builtin .append, args := #[s, x], argTypes := #[t, u] })
    (ht : P.underlying t = some (.slice e)) (hu : P.underlying u = some .string) (hinfo : (P.info? e).map (fun i => (i.zero, i.size, i.bytes)) = some (some (.int .u8 0), 1, 1))
    (v : Value) (xs : List Int) (y : ByteArray) (ok : Nat → Prop) (hs : a.eval s = v) (hx : a.eval x = .string y) (hfresh : ∀ k, W.heap.size ≤ k → ok k)
    (HO : (Kd.int .u8).R e W base ok v xs) (HB : Below base w0 W) (hbase : base ≤ W.heap.size) (hl : xs.length + y.size ≤ 140737488355328)
    (h : ∀ v1 w1, (Kd.int .u8).R e w1 base ok v1 (xs ++ bytesOf y) → Below base w0 w1 → W.grownBy w1 v.ownBlock → (v1.ownBlock = v.ownBlock ∨ ∃ b, v1.ownBlock = some b ∧ W.heap.size ≤ b) → Kc (a.put o.dst v1) w1) :
    if Region.wanted o (yielded ops a.tmps) = true then Oper.wp P o a W Kc Q else Kc (a.put o.dst undef) W := by
  obtain ⟨i0, hi, hzz⟩ := Option.map_eq_some_iff.1 hinfo
  simp only [Prod.mk.injEq] at hzz
  obtain ⟨hz0, hz1, hz2⟩ := hzz
  have hown := Kd.own_of_R HO
  rw [if_pos hw]
  obtain ⟨v1, w1, hr, h2, h3, hat⟩ := run_append_string_at (P := P) W base t u o.type e i0 ht hu hi hz0 hz1 hz2 v xs.length (encs (Value.int .u8) xs) hown y hl hbase
  unfold Oper.wp execOp
  simp only [ho, resolve, invoke, builtin, Sem.run_bind, Sem.run_pure, Result.andThen_ok, List.map_toArray, List.map_cons, List.map_nil, hs, hx, hr]
  exact h v1 w1 (R_of_string HO.1 hfresh h2 hat) (HB.grown h3 hbase (own_base hown)) h3 hat
end
end Go.Proofs.YtjllbkeobibnkaaDoorK

namespace Go.Proofs.YtjllbkeobibnkaaDoorK
open Go Go.RowKit Go.ChangeShapes Go.WideShapes Go.Deep Go.Proofs.YtjllbkeobibnkaaDoorW.PrintWords
/-! What comes in, as a kind tells it: by the type's shape. -/
def Opens (P : Program) (t : TypeId) {α : Type} (d : Kd α) (good : α → Prop) : Prop :=
  ∀ (H : Type) (enc : TypeId × Value → H) (w : World) (base : Nat) (spare : Nat → Bool) (held : Bool) (fuel : Nat) (cs : List Value) (x : DataW H × List MemPlace), DataW.trod enc P w base spare held fuel t cs = some x → ∃ a, d.K w a cs ∧ good a
theorem pick_list {α : Type} {p : Nat → α → Prop} (n : Nat) (h : ∀ i, i < n → ∃ a, p i a) : ∃ l : List α, l.length = n ∧ ∀ i a, l[i]? = some a → p i a := by
  induction n with
  | zero => exact ⟨[], rfl, by simp⟩
  | succ n ih =>
    obtain ⟨l, hll, hlp⟩ := ih (fun i hi => h i (by omega))
    obtain ⟨a, ha⟩ := h n (by omega)
    refine ⟨l ++ [a], by simp [hll], fun i q hq => ?_⟩
    rcases Nat.lt_or_ge i n with hi | hi
    · rw [List.getElem?_append_left (by omega)] at hq
      exact hlp i q hq
    · rw [List.getElem?_append_right (by omega)] at hq
      have hi2 : i = n := by
        have h1 := (List.getElem?_eq_some_iff.1 hq).1
        simp at h1
        omega
      subst hi2
      rw [hll] at hq
      simp at hq
      subst hq
      exact ha
section
variable {P : Program} {t e : TypeId} {α β γ : Type}
theorem opens_int {k : IntKind} (ht : P.underlying t = some (.int k)) : Opens P t (Kd.int k) (fun n => (Lit.int k n).wf = true) := by
  intro H enc w base spare held fuel cs x h
  obtain ⟨n, rfl, _, hw⟩ := DataW.trod_int ht h
  exact ⟨n, rfl, hw⟩
theorem opens_bool (ht : P.underlying t = some .bool) : Opens P t Kd.bool (fun _ => True) := by
  intro H enc w base spare held fuel cs x h
  obtain ⟨b, rfl, _⟩ := DataW.trod_bool ht h
  exact ⟨b, rfl, trivial⟩
theorem opens_string (ht : P.underlying t = some .string) : Opens P t Kd.string (fun s => s.size ≤ 9223372036854775807) := by
  intro H enc w base spare held fuel cs x h
  obtain ⟨s, rfl, _, hs⟩ := DataW.trod_string ht h
  exact ⟨s, rfl, by unfold maxLen at hs; exact hs⟩
theorem opens_slice {d : Kd α} {good : α → Prop} (ht : P.underlying t = some (.slice e)) (hs : P.cellsOf e = d.sz) (ho : Opens P e d good) : Opens P t (Kd.slice e d) (fun l => l.length ≤ 9223372036854775807 ∧ ∀ a ∈ l, good a) := by
  intro H enc w base spare held fuel cs x h
  rcases open_slice ht h with ⟨rfl, _⟩ | ⟨a, len, cap, m, n, D, Pl, rfl, _, hl, hm, hmm, _, hx⟩
  · exact ⟨[], ⟨none, 0, rfl, Nat.le_refl _, Kd.C_nil d w⟩, by simp, by simp⟩
  · have hlm : len ≤ m := by rw [hmm]; split <;> omega
    unfold maxLen at hm
    have key : ∀ i, i < len → ∃ p : α, (∃ c, c.length = d.sz ∧ d.K w p c ∧ ∀ j u, c[j]? = some u → w.cell? (a.add (i * d.sz + j)) = some u) ∧ good p := by
      intro i hi
      obtain ⟨c, hc, hd⟩ := hx i (by omega)
      obtain ⟨p, hK, hg⟩ := ho _ _ _ _ _ _ _ _ _ hd
      obtain ⟨_, hcl, hat⟩ := World.cells?_some hc
      refine ⟨p, ⟨c, by rw [hcl, hs], hK, fun j u hj => ?_⟩, hg⟩
      have hjl : j < c.length := (List.getElem?_eq_some_iff.1 hj).1
      have h1 := hat j (by omega)
      rw [Go.Deep.add_add, hs, hj] at h1
      exact h1
    obtain ⟨l, hll, hlp⟩ := pick_list len key
    refine ⟨l, ⟨some a, cap, by rw [hll], by omega, rfl, by omega, fun _ => ⟨a, rfl, fun j p hj => (hlp j p hj).1⟩⟩, by omega, fun p hp => ?_⟩
    obtain ⟨i, hi, rfl⟩ := List.getElem_of_mem hp
    exact (hlp i _ (List.getElem?_eq_getElem hi)).2
/-- Fields from an offset on. -/
def OpensAt (P : Program) (l : List Field) (o : Nat) {α : Type} (d : Kd α) (good : α → Prop) : Prop :=
  ∀ (H : Type) (enc : TypeId × Value → H) (w : World) (base : Nat) (spare : Nat → Bool) (held : Bool) (n : Nat) (cs : List Value), (∀ f ∈ l, ∃ x, DataW.trod enc P w base spare held n f.type ((cs.drop f.offset).take (P.cellsOf f.type)) = some x) → cs.length = o + d.sz → ∃ a, d.K w a (cs.drop o) ∧ good a
theorem opensAt_last {f : Field} {o : Nat} {d : Kd α} {good : α → Prop} (hoff : f.offset = o) (hsz : P.cellsOf f.type = d.sz) (ho : Opens P f.type d good) : OpensAt P [f] o d good := by
  intro H enc w base spare held n cs h hl
  obtain ⟨x, hx⟩ := h f List.mem_cons_self
  rw [hoff, hsz, List.take_of_length_le (by rw [List.length_drop]; omega)] at hx
  exact ho _ _ _ _ _ _ _ _ _ hx
theorem opensAt_cons {f : Field} {l : List Field} {o : Nat} {d1 : Kd α} {d2 : Kd β} {g1 : α → Prop} {g2 : β → Prop} (hoff : f.offset = o) (hsz : P.cellsOf f.type = d1.sz) (ho : Opens P f.type d1 g1) (hr : OpensAt P l (o + d1.sz) d2 g2) :
    OpensAt P (f :: l) o (Kd.pair d1 d2) (fun p => g1 p.1 ∧ g2 p.2) := by
  intro H enc w base spare held n cs h hl
  have hl' : cs.length = o + d1.sz + d2.sz := by rw [hl]; exact (Nat.add_assoc _ _ _).symm
  obtain ⟨x, hx⟩ := h f List.mem_cons_self
  rw [hoff, hsz] at hx
  obtain ⟨a, hK, hg⟩ := ho _ _ _ _ _ _ _ _ _ hx
  obtain ⟨b, hKb, hgb⟩ := hr H enc w base spare held n cs (fun f hf => h f (List.mem_cons_of_mem _ hf)) hl'
  refine ⟨(a, b), ⟨(cs.drop o).take d1.sz, cs.drop (o + d1.sz), ?_, hK, hKb⟩, hg, hgb⟩
  rw [← List.drop_drop, List.take_append_drop]
theorem opens_struct {fs : Array Field} {d : Kd α} {good : α → Prop} (ht : P.underlying t = some (.struct fs)) (hC : P.cellsOf t = d.sz) (hl : OpensAt P fs.toList 0 d good) (f : β → α) (g : α → β) (hfg : ∀ a, f (g a) = a) : Opens P t (Kd.iso d f) (fun b => good (f b)) := by
  intro H enc w base spare held fuel cs x h
  obtain ⟨xs, n, _, _, hlen, hxl, hf⟩ := DataW.trod_struct ht h
  obtain ⟨a, hK, hg⟩ := hl H enc w base spare held n cs (fun fl hfl => by
    obtain ⟨i, hi, rfl⟩ := List.getElem_of_mem hfl
    have hi' : i < fs.size := by simpa using hi
    have h1 := hf i fs[i] (Array.getElem?_eq_getElem hi')
    rw [List.getElem?_eq_getElem (by omega)] at h1
    exact ⟨_, by simpa using h1⟩) (by rw [hlen, hC, Nat.zero_add])
  exact ⟨g a, by show d.K w (f (g a)) cs; rw [hfg]; simpa using hK, by show good (f (g a)); rw [hfg]; exact hg⟩
/-- A row's slice is no longer than its weight allows, whatever its elements. -/
theorem sized_row {H : Type} {enc : TypeId × Value → H} {W : World} {base : Nat} {spare : Nat → Bool} {held : Bool} {a : Option Addr} {len cap : Nat} {d : DataW H} {ps : List MemPlace} {ts : List TypeId} {ds : List (DataW H)} {j : Nat}
    (hsz : (DataW.weightsEach P ts ds).all (· ≤ reachBytes) = true) (htj : ts[j]? = some t) (hd : ds[j]? = some d) (hu : P.underlying t = some (.slice e)) {B : Nat} (hB : P.bytesOf e = B)
    (h : DataW.Trod enc P W base spare held t (.slice a len cap) d ps) : len * B ≤ 140737488351232 := by
  obtain ⟨fuel, hf⟩ := h
  rcases open_slice hu hf with ⟨hcs, _⟩ | ⟨x, l, c, m, n, D, Pl, hcs, _, hl, _, hm, hx, _⟩
  · simp [Value.cells] at hcs
    obtain ⟨rfl, rfl, rfl⟩ := hcs
    simp
  · simp [Value.cells] at hcs
    obtain ⟨rfl, rfl, rfl⟩ := hcs
    obtain ⟨hx, _⟩ := Prod.mk.inj hx
    subst hx
    have z := sized_slice hsz htj hd hu
    rw [hB] at z
    have hl2 : len ≤ ((List.range len).map D).length + ((List.range (m - len)).map fun j => D (len + j)).length := by simp
    exact Nat.le_trans (Nat.mul_le_mul_right _ hl2) z
end
end Go.Proofs.YtjllbkeobibnkaaDoorK

namespace Go.Proofs.YtjllbkeobibnkaaDoorK
open Go Go.RowKit Go.ChangeShapes Go.WideShapes Go.Deep Go.Proofs.YtjllbkeobibnkaaDoorW.PrintWords
/-! Arrays of 32 bytes, whole. -/
structure Sum where
  l : List UInt8
  h : l.length = 32
theorem Sum.eq {a b : Sum} (h : a.l = b.l) : a = b := by cases a; cases b; simp only at h; subst h; rfl
def sumL (s : Sum) : List Value := s.l.map fun b => .int .u8 (b.toNat : Int)
theorem sumL_len (s : Sum) : (sumL s).length = 32 := by unfold sumL; rw [List.length_map, s.h]
def sum0 : Sum := ⟨List.replicate 32 0, by decide⟩
def kSum : Kd Sum where
  sz := 32
  E := []
  K := fun _ x cs => cs = sumL x
  M := fun _ _ _ x cs => cs = sumL x
  K_len := fun h => by rw [h, sumL_len]
  K_one := fun h u hu => by
    rw [h] at hu
    obtain ⟨b, _, rfl⟩ := List.mem_map.1 hu
    rfl
  K_below := fun _ h => h
  K_of_M := fun h => h
  M_mono := fun _ h => h
  M_bound := fun h => h
  M_move := fun _ h => h
  M_lower := fun _ h => h
section
variable {P : Program} {t e : TypeId}
theorem u8_back {n : Int} (h : (Lit.int .u8 n).wf = true) : ((UInt8.ofNat n.toNat).toNat : Int) = n := by
  simp [Lit.wf, IntKind.min, IntKind.max, IntKind.signed, IntKind.bits] at h
  simp [UInt8.toNat_ofNat']
  omega
theorem opens_sum (ht : P.underlying t = some (.array 32 e)) (he : P.underlying e = some (.int .u8)) (hc : P.cellsOf e = 1) (hs : P.cellsOf t = 32) : Opens P t kSum (fun _ => True) := by
  intro H enc w base spare held fuel cs x h
  obtain ⟨xs, m, _, _, hl, hxl, hx⟩ := DataW.trod_array ht h
  rw [hs] at hl
  rw [hc] at hx
  have key : ∀ i, i < 32 → ∃ b : UInt8, cs[i]? = some (.int .u8 (b.toNat : Int)) := by
    intro i hi
    have h1 := hx i hi
    rw [Nat.mul_one, List.getElem?_eq_getElem (by omega)] at h1
    obtain ⟨n, hn, _, hw⟩ := DataW.trod_int he h1
    have hlt : i < cs.length := by omega
    have h2 : (cs.drop i).take 1 = [cs[i]] := by rw [List.drop_eq_getElem_cons hlt]; rfl
    rw [h2] at hn
    injection hn with hn _
    refine ⟨UInt8.ofNat n.toNat, ?_⟩
    rw [List.getElem?_eq_getElem hlt, hn, u8_back hw]
  obtain ⟨l, hll, hlp⟩ := pick_list 32 key
  refine ⟨⟨l, hll⟩, ?_, trivial⟩
  show cs = sumL ⟨l, hll⟩
  apply List.ext_getElem?
  intro i
  show cs[i]? = (l.map fun b => Value.int .u8 (b.toNat : Int))[i]?
  rw [List.getElem?_map]
  rcases Nat.lt_or_ge i 32 with hi | hi
  · have h3 := hlp i l[i] (List.getElem?_eq_getElem (by omega))
    rw [h3, List.getElem?_eq_getElem (by omega)]
    rfl
  · rw [List.getElem?_eq_none (by omega), List.getElem?_eq_none (by omega)]
    rfl
theorem run_part_one {w : World} (he : P.underlying e = some (.int .u8)) (xs : Array Value) (j : Nat) (v : Value) (h : xs[j]? = some v) : (part e xs j).run P w = .ok v w := by
  unfold part isAgg
  simp [Sem.run_bind, run_underlying he, h]
theorem eqItems_bytes {w : World} (d : Nat) (he : P.underlying e = some (.int .u8)) (xs ys : Array Value) (l m : List UInt8) (hx : ∀ (j : Nat) b, l[j]? = some b → xs[j]? = some (.int .u8 (b.toNat : Int))) (hy : ∀ (j : Nat) b, m[j]? = some b → ys[j]? = some (.int .u8 (b.toNat : Int))) :
    ∀ is : List Nat, (∀ j ∈ is, j < l.length ∧ j < m.length) → (Op.eqItems (d + 1) e 1 xs ys is).run P w = .ok (is.all fun j => l[j]? == m[j]?) w := by
  intro is
  induction is with
  | nil => intro _; simp [Op.eqItems]
  | cons j is ih =>
    intro hj
    obtain ⟨h1, h2⟩ := hj j (by simp)
    have a := run_part_one (P := P) (w := w) he xs (j * 1) _ (by rw [Nat.mul_one]; exact hx j l[j] (List.getElem?_eq_getElem h1))
    have b := run_part_one (P := P) (w := w) he ys (j * 1) _ (by rw [Nat.mul_one]; exact hy j m[j] (List.getElem?_eq_getElem h2))
    have c : (Op.equalIn (d + 1) e (.int .u8 (l[j].toNat : Int)) (.int .u8 (m[j].toNat : Int))).run P w = .ok (l[j] == m[j]) w := by
      have e1 : (((l[j].toNat : Nat) : Int) == ((m[j].toNat : Nat) : Int)) = (l[j] == m[j]) := by
        rw [Bool.eq_iff_iff]
        simp only [beq_iff_eq]
        constructor
        · intro h; exact UInt8.toNat.inj (by omega)
        · intro h; rw [h]
      simp [Op.equalIn, Sem.run_bind, run_underlying he, e1]
    simp only [Op.eqItems, Sem.run_bind, a, b, c, Result.andThen_ok]
    rw [List.all_cons, List.getElem?_eq_getElem h1, List.getElem?_eq_getElem h2]
    by_cases hq : l[j] = m[j]
    · have q1 : (l[j] == m[j]) = true := beq_iff_eq.2 hq
      have q2 : (some l[j] == some m[j]) = true := by simp [hq]
      rw [q1, q2]
      simpa using ih (fun k hk => hj k (by simp [hk]))
    · have q1 : (l[j] == m[j]) = false := beq_eq_false_iff_ne.2 hq
      have q2 : (some l[j] == some m[j]) = false := by simp [hq]
      rw [q1, q2]
      simp
theorem eq_sum {w : World} {i : TypeInfo} (d : Nat) (ht : P.underlying t = some (.array 32 e)) (he : P.underlying e = some (.int .u8)) (hc : P.cellsOf e = 1) (hi : P.info? e = some i) (xs ys : Array Value) (s r : Sum) (hx : xs.toList = sumL s) (hy : ys.toList = sumL r) :
    (Op.equalIn (d + 2) t (.agg xs) (.agg ys)).run P w = .ok (s.l == r.l) w := by
  have g : ∀ (zs : Array Value) (q : Sum), zs.toList = sumL q → ∀ (j : Nat) b, q.l[j]? = some b → zs[j]? = some (.int .u8 (b.toNat : Int)) := by
    intro zs q hz j b hb
    rw [← Array.getElem?_toList, hz]
    unfold sumL
    rw [List.getElem?_map, hb]
    rfl
  rw [run_equalIn_array (P := P) (w := w) (d + 1) xs ys ht hi, hc, eqItems_bytes d he xs ys s.l r.l (g xs s hx) (g ys r hy) _ (fun j hj => by rw [List.mem_range] at hj; rw [s.h, r.h]; exact ⟨hj, hj⟩)]
  congr 1
  rw [Bool.eq_iff_iff, List.all_eq_true, beq_iff_eq]
  constructor
  · intro h
    apply List.ext_getElem?
    intro j
    rcases Nat.lt_or_ge j 32 with hj | hj
    · simpa using h j (List.mem_range.2 hj)
    · rw [List.getElem?_eq_none (by rw [s.h]; exact hj), List.getElem?_eq_none (by rw [r.h]; exact hj)]
  · intro h j _
    rw [h]
    simp
end
end Go.Proofs.YtjllbkeobibnkaaDoorK

namespace Go.Proofs.YtjllbkeobibnkaaDoorK
open Go Go.RowKit Go.Proofs.YtjllbkeobibnkaaDoorW.PrintWords
/-! Whole structs and arrays out of memory, wherever they lie. -/
section
variable {P : Program} {ops : Array Oper} {rest : List Oper} {o : Oper} {a : Act} {W : World} {Q : Exit → Act → World → Prop}
/-- The cells cs lie at ad. -/
def At (W : World) (ad : Addr) (cs : List Value) : Prop := ∀ (j : Nat) (u : Value), cs[j]? = some u → W.cell? (ad.add j) = some u
theorem add_zero_ (ad : Addr) : ad.add 0 = ad := by unfold Addr.add; split <;> simp_all
theorem add_at (g i j : Nat) : (⟨g, i, none⟩ : Addr).add j = ⟨g, i + j, none⟩ := by unfold Addr.add; split <;> simp_all
theorem At_box {g : Nat} {cs : Array Value} {t : TypeId} (h : W.heap[g]? = some (.cells cs t (0, 0))) : At W ⟨g, 0, none⟩ cs.toList := fun j u hj => by
  rw [add_at, Nat.zero_add, blk_cell h]
  simpa using hj
theorem At_seg {g i : Nat} {cs : Array Value} {t : TypeId} {l : List Value} (h : W.heap[g]? = some (.cells cs t (0, 0))) (hl : ∀ (j : Nat) (u : Value), l[j]? = some u → cs[i + j]? = some u) : At W ⟨g, i, none⟩ l := fun j u hj => by
  rw [add_at, blk_cell h]
  exact hl j u hj
theorem run_loadVar_at {ty : TypeId} {ad : Addr} {cs : List Value} {d : TypeDesc} (hc : At W ad cs) (hu : P.underlying ty = some d) (hd : (match d with | .struct _ | .array _ _ => true | _ => false) = true) (hi : (P.info? ty).map (·.size) = some cs.length) :
    (loadVar ty ad).run P W = .ok (.agg cs.toArray) W := by
  have hl : (loadCells ad cs.length).run P W = .ok cs.toArray W := run_loadCells_list (P := P) W ad cs hc
  cases hq : P.info? ty with
  | none => simp [hq] at hi
  | some i =>
    have hs : i.size = cs.length := by simpa [hq] using hi
    have hagg : (isAgg ty).run P W = .ok true W := by
      unfold isAgg
      rw [Sem.run_bind, run_underlying hu W]
      cases d <;> simp_all
    simp [loadVar, Sem.run_bind, hagg, sizeOf, typeInfo, hq, hs, hl]
/-- A struct, or an array, is read whole. -/
theorem seg_load (hgd : o.guard = none) (ty : TypeId) (x : Operand) (ho : o.op = .load ty x) {ad : Addr} {cs : List Value} (hc : At W ad cs) (arr : Array Value) (harr : arr = cs.toArray)
    (hx : a.eval x = .pointer (some ad)) {d : TypeDesc} (hu : P.underlying ty = some d) (hd : (match d with | .struct _ | .array _ _ => true | _ => false) = true)
    (hi : (P.info? ty).map (·.size) = some cs.length) (h : wpList P ops Q rest (a.put o.dst (.agg arr)) W) : wpList P ops Q (o :: rest) a W := by
  subst harr
  refine wpList_plain hgd fun K hK => ?_
  unfold Oper.wp execOp
  simp only [ho, hx, Instr.loadAt, Instr.sureAddr, Sem.run_bind, Sem.run_pure, Result.andThen_ok, run_loadVar_at hc hu hd hi]
  exact hK _ _ h
/-- The same in a region that draws its order and only reads. -/
theorem quiet_load {C : World → Prop} {K : Act → Prop} (hw : Region.wanted o (yielded ops a.tmps) = true) (ty : TypeId) (x : Operand) (ho : o.op = .load ty x) {ad : Addr} {cs : List Value} (arr : Array Value) (harr : arr = cs.toArray) (hc : ∀ w, C w → At w ad cs)
    (hx : a.eval x = .pointer (some ad)) {d : TypeDesc} (hu : P.underlying ty = some d) (hd : (match d with | .struct _ | .array _ _ => true | _ => false) = true)
    (hi : (P.info? ty).map (·.size) = some cs.length) (h : K (a.put o.dst (.agg arr))) : if Region.wanted o (yielded ops a.tmps) = true then o.quiet P a C K else K (a.put o.dst undef) := by
  subst harr
  rw [if_pos hw]
  refine ⟨_, fun w hC => ?_, h⟩
  unfold Oper.quietAt execOp
  simp only [ho, hx, Instr.loadAt, Instr.sureAddr, Sem.run_bind, Sem.run_pure, Result.andThen_ok, run_loadVar_at (hc w hC) hu hd hi]
  exact ⟨rfl, rfl⟩
/-- An operation that tells a value and turns nothing. -/
theorem val_event (hgd : o.guard = none) {N : Tmp} (_hd : o.dst = some N) {v : Value} (hrun : (execOp a.eval o).run P W = .ok (.value v) W) (h : wpList P ops Q rest (a.put o.dst v) W) : wpList P ops Q (o :: rest) a W :=
  Kd.event_run hgd hrun h
/-- 'string(x[:])' of an array of 32 bytes. -/
theorem sumstr_event (hgd : o.guard = none) {src dst e : TypeId} {x : Operand} (ho : o.op = .convert src dst x) {ad : Addr} {cap : Nat} {s : Sum} (hc : At W ad (sumL s)) (hx : a.eval x = .slice (some ad) 32 cap)
    (hs : P.underlying src = some (.slice e)) (he : P.underlying e = some (.int .u8)) (hd : P.underlying dst = some .string)
    (h : wpList P ops Q rest (a.put o.dst (.string ⟨s.l.toArray⟩)) W) : wpList P ops Q (o :: rest) a W := by
  have hr := run_convert_bytes_back (P := P) W src dst e ad cap s.l hs he hd (fun j hj => hc j _ (by unfold sumL; rw [List.getElem?_map, List.getElem?_eq_getElem hj]; rfl))
  rw [s.h] at hr
  exact Kd.event_run hgd (by unfold execOp; simp only [ho, hx, Sem.run_bind, hr, Result.andThen_ok, Sem.run_pure]) h
/-- A new block, by whatever operation: its world under a name. -/
theorem new_event (hgd : o.guard = none) {N : Tmp} (_hd : o.dst = some N) {v : Value} {ob : Obj} (hrun : (execOp a.eval o).run P W = .ok (.value v) (W.alloc ob))
    (h : ∀ w1, Prev w1 W .none → Holds w1 W.heap.size ob → wpList P ops Q rest (a.put o.dst v) w1) : wpList P ops Q (o :: rest) a W :=
  Kd.event_run hgd hrun (h _ inferInstance inferInstance)
end
end Go.Proofs.YtjllbkeobibnkaaDoorK

namespace Go.Proofs.YtjllbkeobibnkaaDoorK
open Go Go.RowKit Go.Proofs.YtjllbkeobibnkaaDoorW.PrintWords
/-! A struct, or an array, is written into a part of a box. -/
section
variable {P : Program} {ops : Array Oper} {rest : List Oper} {o : Oper} {a : Act} {W : World} {Q : Exit → Act → World → Prop}
theorem run_storeVar_seg {ty : TypeId} {g off : Nat} {t : TypeId} {old cells : Array Value} (hg : W.heap[g]? = some (.cells old t (0, 0))) (hi : (P.info? ty).map (·.size) = some cells.size) (hfit : off + cells.size ≤ old.size) (h1 : ∀ v ∈ cells.toList, v.oneCell' = true) :
    (storeVar ty ⟨g, off, none⟩ (.agg cells)).run P W = .ok () (W.setRow g (old.toList.take off ++ cells.toList ++ old.toList.drop (off + cells.size)).toArray) := by
  have hst := run_storeCells_at P g off t cells.toList 0 old W hg (by simpa using hfit) h1
  simp only [Nat.add_zero, Array.length_toList] at hst
  cases hq : P.info? ty with
  | none => simp [hq] at hi
  | some i =>
    have hs : cells.size = i.size := by simp [hq] at hi; omega
    simp [storeVar, sizeOf, typeInfo, hq, Value.cells, hs] at hst ⊢
    rw [hst]
theorem seg_store (hgd : o.guard = none) (hN : o.dst = none) (ty : TypeId) (x y : Operand) (ho : o.op = .store ty x y) {g off : Nat} {t : TypeId} {old : Array Value} (hg : W.heap[g]? = some (.cells old t (0, 0))) (cells new : Array Value)
    (hx : a.eval x = .pointer (some ⟨g, off, none⟩)) (hy : a.eval y = .agg cells) (hi : (P.info? ty).map (·.size) = some cells.size) (hfit : off + cells.size ≤ old.size) (h1 : ∀ v ∈ cells.toList, v.oneCell' = true)
    (hnew : new.toList = old.toList.take off ++ cells.toList ++ old.toList.drop (off + cells.size))
    (h : ∀ w1, w1.heap[g]? = some (.cells new t (0, 0)) → W.grownBy w1 (some g) → wpList P ops Q rest a w1) : wpList P ops Q (o :: rest) a W := by
  have hr := run_storeVar_seg (P := P) (W := W) (ty := ty) hg hi hfit h1
  rw [← hnew, Array.toArray_toList] at hr
  refine wpList_plain hgd fun K hK => ?_
  unfold Oper.wp execOp
  simp only [ho, hx, hy, Instr.storeAt, Instr.sureAddr, Sem.run_bind, Sem.run_pure, Result.andThen_ok, hr]
  have h2 := h _ (setRow_heap W g old new t (0, 0) hg) (grown_setRow W g new)
  exact hK _ _ (by rw [hN]; exact h2)
end
end Go.Proofs.YtjllbkeobibnkaaDoorK

namespace Go.Proofs.YtjllbkeobibnkaaDoor.Q
open Go.RowKit Go.Proofs.YtjllbkeobibnkaaDoorW.PrintWords Go.Proofs.YtjllbkeobibnkaaDoorW.PrintLast Go.Proofs.YtjllbkeobibnkaaDoorW.PrintMore
attribute [local go_sem] max2_int min2_int max_two min_two max_three min_three max_four min_four   -- for this text's walks alone
attribute [local go_sem ↓] Go.Proofs.YtjllbkeobibnkaaDoorK.isSome_setCell
set_option linter.unusedVariables false
set_option linter.unusedSimpArgs false



def errW : Option Int → Value
  | none => .nilIface
  | some c => .iface 0 (.int .i64 c)
theorem errW_none : errW none = .nilIface := rfl
theorem errW_some (c : Int) : errW (some c) = .iface 0 (.int .i64 c) := rfl

theorem info9 : (Tryd.prog.info? 9).map (fun i => (i.zero, i.size, i.bytes)) = some (some (.string ⟨#[]⟩), 1, 16) := by kernel_rfl
-- the values' own types
def rd_L2 (xs : List (List ByteArray)) (i : Int) : (List ByteArray) := xs.getD i.toNat ([] : List ByteArray)
theorem at_L2 {w : World} {A : Option Addr} {n : Nat} {xs : List (List ByteArray)} (h : Kd.C (Kd.slice 9 Kd.string) w A n xs) (i : Int) (h0 : 0 ≤ i) (h1 : i < n) : ∃ ad A0 c0, A = some ad ∧ w.cell? (ad.add i.toNat) = some (.slice A0 (rd_L2 xs i).length c0) ∧ (rd_L2 xs i).length ≤ c0 ∧ Kd.string.C w A0 (rd_L2 xs i).length (rd_L2 xs i) := by
  obtain ⟨ad, c, e, _, hK, hc0⟩ := Kd.C_get h ([] : List ByteArray) i h0 h1
  have hc : ∀ j u, c[j]? = some u → w.cell? (ad.add (i.toNat * 1 + j)) = some u := hc0
  obtain ⟨A0, c0, rfl, l0, g0⟩ := hK
  exact ⟨ad, A0, c0, e, by have hq := hc 0 _ rfl; rwa [Nat.mul_one, Nat.add_zero] at hq, l0, g0⟩

end Go.Proofs.YtjllbkeobibnkaaDoor.Q

namespace Go.Proofs.YtjllbkeobibnkaaDoor.Q
open Go Go.Proofs Go.RowKit Go.Proofs.YtjllbkeobibnkaaDoorK Go.Proofs.YtjllbkeobibnkaaDoorW.PrintWords Go.Proofs.YtjllbkeobibnkaaDoorW.PrintLast Go.Proofs.YtjllbkeobibnkaaDoorW.PrintMore
set_option linter.unusedSimpArgs false
set_option linter.unusedVariables false
/-! ### What merge is about: what is known of a path; sides; what all sides have of a path -/
/-- api.Arch: a version, a size, a sum. -/
structure S51 where
  f0 : Int
  f1 : Int
  f2 : Sum
def z51 : S51 := ⟨0, 0, sum0⟩
def L51 (x : S51) : List Value := .int .i64 x.f0 :: .int .i64 x.f1 :: sumL x.f2
def A51 (x : S51) : Array Value := (L51 x).toArray
theorem L51_len (x : S51) : (L51 x).length = 34 := by simp [L51, sumL_len]
theorem A51_size (x : S51) : (A51 x).size = 34 := by simp [A51, L51_len]
theorem A51_list (x : S51) : (A51 x).toList = L51 x := by simp [A51]
theorem A51_0 (x : S51) : (A51 x)[0]? = some (.int .i64 x.f0) := by simp [A51, L51]
theorem A51_1 (x : S51) : (A51 x)[1]? = some (.int .i64 x.f1) := by simp [A51, L51]
theorem A51_g0 (x : S51) (h : 0 < (A51 x).size) : (A51 x)[0] = .int .i64 x.f0 := by have := A51_0 x; rw [Array.getElem?_eq_getElem h] at this; exact Option.some.inj this
theorem A51_g1 (x : S51) (h : 1 < (A51 x).size) : (A51 x)[1] = .int .i64 x.f1 := by have := A51_1 x; rw [Array.getElem?_eq_getElem h] at this; exact Option.some.inj this
theorem A51_sum (x : S51) (j : Nat) (u : Value) (h : (sumL x.f2)[j]? = some u) : (A51 x)[2 + j]? = some u := by
  simp only [A51, L51, List.getElem?_toArray]
  rw [Nat.add_comm]
  exact h
theorem sumL_one (s : Sum) : ∀ v ∈ sumL s, v.oneCell' = true := by
  intro v hv
  obtain ⟨b, _, rfl⟩ := List.mem_map.1 hv
  rfl
theorem L51_one (x : S51) : ∀ v ∈ L51 x, v.oneCell' = true := by
  intro v hv
  unfold L51 at hv
  rcases List.mem_cons.1 hv with rfl | hv
  · rfl
  · rcases List.mem_cons.1 hv with rfl | hv
    · rfl
    · exact sumL_one _ v hv
theorem info51s : (Tryd.prog.info? 51).map (·.size) = some 34 := by kernel_rfl
theorem info49s : (Tryd.prog.info? 49).map (·.size) = some 32 := by kernel_rfl
/-- api.Known: a path, and what is known of it. -/
structure S58 where
  f0 : ByteArray
  f1 : S51
def z58 : S58 := ⟨⟨#[]⟩, z51⟩
def L58 (x : S58) : List Value := .string x.f0 :: L51 x.f1
def A58 (x : S58) : Array Value := (L58 x).toArray
theorem L58_len (x : S58) : (L58 x).length = 35 := by simp [L58, L51_len]
theorem A58_size (x : S58) : (A58 x).size = 35 := by simp [A58, L58_len]
theorem A58_list (x : S58) : (A58 x).toList = L58 x := by simp [A58]
theorem A58_0 (x : S58) : (A58 x)[0]? = some (.string x.f0) := by simp [A58, L58]
theorem A58_1 (x : S58) : (A58 x)[1]? = some (.int .i64 x.f1.f0) := by simp [A58, L58, L51]
theorem A58_2 (x : S58) : (A58 x)[2]? = some (.int .i64 x.f1.f1) := by simp [A58, L58, L51]
theorem A58_g0 (x : S58) (h : 0 < (A58 x).size) : (A58 x)[0] = .string x.f0 := by have := A58_0 x; rw [Array.getElem?_eq_getElem h] at this; exact Option.some.inj this
theorem A58_g1 (x : S58) (h : 1 < (A58 x).size) : (A58 x)[1] = .int .i64 x.f1.f0 := by have := A58_1 x; rw [Array.getElem?_eq_getElem h] at this; exact Option.some.inj this
theorem A58_g2 (x : S58) (h : 2 < (A58 x).size) : (A58 x)[2] = .int .i64 x.f1.f1 := by have := A58_2 x; rw [Array.getElem?_eq_getElem h] at this; exact Option.some.inj this
theorem A58_arch (x : S58) (j : Nat) (u : Value) (h : (L51 x.f1)[j]? = some u) : (A58 x)[1 + j]? = some u := by
  simp only [A58, L58, List.getElem?_toArray]
  rw [Nat.add_comm]
  exact h
theorem L58_one (x : S58) : ∀ v ∈ L58 x, v.oneCell' = true := by
  intro v hv
  unfold L58 at hv
  rcases List.mem_cons.1 hv with rfl | hv
  · rfl
  · exact L51_one _ v hv
theorem info58s : (Tryd.prog.info? 58).map (·.size) = some 35 := by kernel_rfl
def k58 : Kd S58 where
  sz := 35
  E := []
  K := fun _ x cs => cs = L58 x
  M := fun _ _ _ x cs => cs = L58 x
  K_len := fun h => by rw [h, L58_len]
  K_one := fun h u hu => by rw [h] at hu; exact L58_one _ u hu
  K_below := fun _ h => h
  K_of_M := fun h => h
  M_mono := fun _ h => h
  M_bound := fun h => h
  M_move := fun _ h => h
  M_lower := fun _ h => h
theorem C58_at {w : World} {A : Option Addr} {l : List S58} (h : k58.C w A l.length l) (j : Nat) (hj : j < l.length) : ∃ ad, A = some ad ∧ At w (ad.add (j * 35)) (L58 l[j]) := by
  obtain ⟨ad, e, hc⟩ := h.2.2 (by omega)
  obtain ⟨c, h1, h2, h3⟩ := hc j l[j] (List.getElem?_eq_getElem hj)
  refine ⟨ad, e, fun i u hi => ?_⟩
  rw [Go.Deep.add_add]
  exact h3 i u (by rw [show c = L58 l[j] from h2]; exact hi)
theorem At_below {w w' : World} {ad : Addr} {cs : List Value} (h : At w ad cs) (hb : Below w.heap.size w w') : At w' ad cs := fun j u hj => by
  have h1 := h j u hj
  exact (hb.cell (World.block_lt_of_cell? w _ h1)).trans h1
/-- Its cells, one by one; what it holds of sums, whole. -/
theorem At58 {w : World} {ad : Addr} {x : S58} (h : At w ad (L58 x)) : w.cell? (ad.add 0) = some (.string x.f0) ∧ w.cell? (ad.add 1) = some (.int .i64 x.f1.f0) ∧ w.cell? (ad.add 2) = some (.int .i64 x.f1.f1) ∧ At w (ad.add 1) (L51 x.f1) ∧ At w (ad.add 3) (sumL x.f1.f2) := by
  refine ⟨h 0 _ rfl, h 1 _ rfl, h 2 _ rfl, fun j u hj => ?_, fun j u hj => ?_⟩
  · rw [Go.Deep.add_add]
    exact h (1 + j) u (by rw [Nat.add_comm]; exact hj)
  · rw [Go.Deep.add_add]
    exact h (3 + j) u (by rw [Nat.add_comm]; exact hj)
/-- merge.state: what all sides have of a path. -/
structure S65 where
  a : S51
  l : S51
  r : S51
  inA : Bool
  inL : Bool
  inR : Bool
  here : Bool
  there : Bool
def z65 : S65 := ⟨z51, z51, z51, false, false, false, false, false⟩
def L65 (x : S65) : List Value := L51 x.a ++ (L51 x.l ++ (L51 x.r ++ [.bool x.inA, .bool x.inL, .bool x.inR, .bool x.here, .bool x.there]))
def A65 (x : S65) : Array Value := (L65 x).toArray
theorem L65_len (x : S65) : (L65 x).length = 107 := by simp [L65, L51_len]
theorem A65_size (x : S65) : (A65 x).size = 107 := by simp [A65, L65_len]
theorem A65_list (x : S65) : (A65 x).toList = L65 x := by simp [A65]
theorem L65_a (x : S65) (j : Nat) (u : Value) (h : (L51 x.a)[j]? = some u) : (A65 x)[0 + j]? = some u := by
  have hl := (List.getElem?_eq_some_iff.1 h).1
  simp only [A65, L65, List.getElem?_toArray, Nat.zero_add]
  rw [List.getElem?_append_left hl]
  exact h
theorem L65_l (x : S65) (j : Nat) (u : Value) (h : (L51 x.l)[j]? = some u) : (A65 x)[34 + j]? = some u := by
  have hl := (List.getElem?_eq_some_iff.1 h).1
  simp only [A65, L65, List.getElem?_toArray]
  rw [List.getElem?_append_right (by rw [L51_len]; omega), L51_len, Nat.add_sub_cancel_left, List.getElem?_append_left hl]
  exact h
theorem L65_r (x : S65) (j : Nat) (u : Value) (h : (L51 x.r)[j]? = some u) : (A65 x)[68 + j]? = some u := by
  have hl := (List.getElem?_eq_some_iff.1 h).1
  simp only [A65, L65, List.getElem?_toArray]
  rw [List.getElem?_append_right (by rw [L51_len]; omega), L51_len, List.getElem?_append_right (by rw [L51_len]; omega), L51_len, show 68 + j - 34 - 34 = j by omega, List.getElem?_append_left hl]
  exact h
theorem L65_b (x : S65) (j : Nat) : (A65 x)[102 + j]? = [Value.bool x.inA, .bool x.inL, .bool x.inR, .bool x.here, .bool x.there][j]? := by
  simp only [A65, L65, List.getElem?_toArray]
  rw [List.getElem?_append_right (by rw [L51_len]; omega), L51_len, List.getElem?_append_right (by rw [L51_len]; omega), L51_len, List.getElem?_append_right (by rw [L51_len]; omega), L51_len, show 102 + j - 34 - 34 - 34 = j by omega]
theorem A65_0 (x : S65) : (A65 x)[0]? = some (.int .i64 x.a.f0) := L65_a x 0 _ rfl
theorem A65_1 (x : S65) : (A65 x)[1]? = some (.int .i64 x.a.f1) := L65_a x 1 _ rfl
theorem A65_34 (x : S65) : (A65 x)[34]? = some (.int .i64 x.l.f0) := L65_l x 0 _ rfl
theorem A65_35 (x : S65) : (A65 x)[35]? = some (.int .i64 x.l.f1) := L65_l x 1 _ rfl
theorem A65_68 (x : S65) : (A65 x)[68]? = some (.int .i64 x.r.f0) := L65_r x 0 _ rfl
theorem A65_69 (x : S65) : (A65 x)[69]? = some (.int .i64 x.r.f1) := L65_r x 1 _ rfl
theorem A65_102 (x : S65) : (A65 x)[102]? = some (.bool x.inA) := L65_b x 0
theorem A65_103 (x : S65) : (A65 x)[103]? = some (.bool x.inL) := L65_b x 1
theorem A65_104 (x : S65) : (A65 x)[104]? = some (.bool x.inR) := L65_b x 2
theorem A65_105 (x : S65) : (A65 x)[105]? = some (.bool x.here) := L65_b x 3
theorem A65_106 (x : S65) : (A65 x)[106]? = some (.bool x.there) := L65_b x 4
theorem A65_get {x : S65} {i : Nat} {v : Value} (h : (A65 x)[i]? = some v) (hi : i < (A65 x).size) : (A65 x)[i] = v := by rw [Array.getElem?_eq_getElem hi] at h; exact Option.some.inj h
theorem A65_g0 (x : S65) (h : 0 < (A65 x).size) : (A65 x)[0] = .int .i64 x.a.f0 := A65_get (A65_0 x) h
theorem A65_g34 (x : S65) (h : 34 < (A65 x).size) : (A65 x)[34] = .int .i64 x.l.f0 := A65_get (A65_34 x) h
theorem A65_g68 (x : S65) (h : 68 < (A65 x).size) : (A65 x)[68] = .int .i64 x.r.f0 := A65_get (A65_68 x) h
theorem A65_g102 (x : S65) (h : 102 < (A65 x).size) : (A65 x)[102] = .bool x.inA := A65_get (A65_102 x) h
theorem A65_g103 (x : S65) (h : 103 < (A65 x).size) : (A65 x)[103] = .bool x.inL := A65_get (A65_103 x) h
theorem A65_g104 (x : S65) (h : 104 < (A65 x).size) : (A65 x)[104] = .bool x.inR := A65_get (A65_104 x) h
theorem A65_g105 (x : S65) (h : 105 < (A65 x).size) : (A65 x)[105] = .bool x.here := A65_get (A65_105 x) h
theorem A65_g106 (x : S65) (h : 106 < (A65 x).size) : (A65 x)[106] = .bool x.there := A65_get (A65_106 x) h
/-- A part of it is written. -/
theorem set_a (x : S65) (v : S51) : (A65 { x with a := v }).toList = (A65 x).toList.take 0 ++ (A51 v).toList ++ (A65 x).toList.drop (0 + (A51 v).size) := by
  rw [A51_size, A65_list, A65_list, A51_list]
  simp only [L65, List.take_zero, List.nil_append, Nat.zero_add]
  rw [show (34 : Nat) = (L51 x.a).length by rw [L51_len], List.drop_left]
theorem set_l (x : S65) (v : S51) : (A65 { x with l := v }).toList = (A65 x).toList.take 34 ++ (A51 v).toList ++ (A65 x).toList.drop (34 + (A51 v).size) := by
  rw [A51_size, A65_list, A65_list, A51_list]
  simp only [L65]
  have e1 : (34 : Nat) = (L51 x.a).length := by rw [L51_len]
  have e2 : (34 : Nat) = (L51 x.l).length := by rw [L51_len]
  conv => rhs; rw [← List.drop_drop]
  rw [show List.take 34 (L51 x.a ++ (L51 x.l ++ (L51 x.r ++ [Value.bool x.inA, .bool x.inL, .bool x.inR, .bool x.here, .bool x.there]))) = L51 x.a by conv => lhs; rw [e1, List.take_left]]
  rw [show List.drop 34 (L51 x.a ++ (L51 x.l ++ (L51 x.r ++ [Value.bool x.inA, .bool x.inL, .bool x.inR, .bool x.here, .bool x.there]))) = L51 x.l ++ (L51 x.r ++ [Value.bool x.inA, .bool x.inL, .bool x.inR, .bool x.here, .bool x.there]) by conv => lhs; rw [e1, List.drop_left]]
  conv => rhs; rw [e2, List.drop_left]
  rw [List.append_assoc]
theorem set_r (x : S65) (v : S51) : (A65 { x with r := v }).toList = (A65 x).toList.take 68 ++ (A51 v).toList ++ (A65 x).toList.drop (68 + (A51 v).size) := by
  rw [A51_size, A65_list, A65_list, A51_list]
  have e1 : (L51 x.a ++ L51 x.l).length = 68 := by simp [L51_len]
  have e3 : (L51 x.a ++ L51 x.l ++ L51 x.r).length = 68 + 34 := by simp [L51_len]
  have h1 : L65 x = (L51 x.a ++ L51 x.l) ++ (L51 x.r ++ [Value.bool x.inA, .bool x.inL, .bool x.inR, .bool x.here, .bool x.there]) := by simp [L65]
  have h2 : L65 x = (L51 x.a ++ L51 x.l ++ L51 x.r) ++ [Value.bool x.inA, .bool x.inL, .bool x.inR, .bool x.here, .bool x.there] := by simp [L65]
  conv => rhs; lhs; rw [h1, ← e1, List.take_left]
  conv => rhs; rhs; rw [h2, ← e3, List.drop_left]
  simp [L65]
theorem set_flag (x y : S65) (i : Nat) (b : Bool) (hi : i < 5) (h : [Value.bool y.inA, .bool y.inL, .bool y.inR, .bool y.here, .bool y.there] = [Value.bool x.inA, .bool x.inL, .bool x.inR, .bool x.here, .bool x.there].set i (.bool b)) (ha : y.a = x.a) (hl : y.l = x.l) (hr : y.r = x.r) :
    (A65 x).setIfInBounds (102 + i) (.bool b) = A65 y := by
  apply Array.toList_inj.1
  rw [Array.toList_setIfInBounds, A65_list, A65_list]
  unfold L65
  rw [ha, hl, hr, h, List.set_append_right _ _ (by rw [L51_len]; omega), L51_len, List.set_append_right _ _ (by rw [L51_len]; omega), L51_len, List.set_append_right _ _ (by rw [L51_len]; omega), L51_len, show 102 + i - 34 - 34 - 34 = i by omega]
theorem set_inA (x : S65) (b : Bool) : (A65 x).setIfInBounds 102 (.bool b) = A65 { x with inA := b } := set_flag x _ 0 b (by decide) rfl rfl rfl rfl
theorem set_inL (x : S65) (b : Bool) : (A65 x).setIfInBounds 103 (.bool b) = A65 { x with inL := b } := set_flag x _ 1 b (by decide) rfl rfl rfl rfl
theorem set_inR (x : S65) (b : Bool) : (A65 x).setIfInBounds 104 (.bool b) = A65 { x with inR := b } := set_flag x _ 2 b (by decide) rfl rfl rfl rfl
theorem set_here (x : S65) (b : Bool) : (A65 x).setIfInBounds 105 (.bool b) = A65 { x with here := b } := set_flag x _ 3 b (by decide) rfl rfl rfl rfl
theorem set_there (x : S65) (b : Bool) : (A65 x).setIfInBounds 106 (.bool b) = A65 { x with there := b } := set_flag x _ 4 b (by decide) rfl rfl rfl rfl
theorem L65_one (x : S65) : ∀ v ∈ L65 x, v.oneCell' = true := by
  intro v hv
  unfold L65 at hv
  rcases List.mem_append.1 hv with hv | hv
  · exact L51_one _ v hv
  · rcases List.mem_append.1 hv with hv | hv
    · exact L51_one _ v hv
    · rcases List.mem_append.1 hv with hv | hv
      · exact L51_one _ v hv
      · simp at hv
        rcases hv with rfl | rfl | rfl | rfl | rfl <;> rfl
theorem info65s : (Tryd.prog.info? 65).map (·.size) = some 107 := by kernel_rfl
/-- api.Sides: three lists. -/
structure S24 where
  f0 : List S58
  f1 : List S58
  f2 : List S58
/-- A list as a side's, by value. -/
structure Row (w : World) (v : Value) (l : List S58) : Prop where
  out : ∃ A c, v = .slice A l.length c ∧ l.length ≤ c ∧ k58.C w A l.length l
theorem Row.below {w w' : World} {v : Value} {l : List S58} (h : Row w v l) (hb : Below w.heap.size w w') : Row w' v l := by
  obtain ⟨A, c, h1, h2, h3⟩ := h.out
  exact ⟨⟨A, c, h1, h2, Kd.C_below h3 hb⟩⟩
end Go.Proofs.YtjllbkeobibnkaaDoor.Q

namespace Go.Proofs.YtjllbkeobibnkaaDoor.Q
open Go Go.Proofs Go.RowKit Go.Proofs.YtjllbkeobibnkaaDoorK Go.Proofs.YtjllbkeobibnkaaDoorW.PrintWords Go.Proofs.YtjllbkeobibnkaaDoorW.PrintLast Go.Proofs.YtjllbkeobibnkaaDoorW.PrintMore
set_option linter.unusedSimpArgs false
set_option linter.unusedVariables false
/-! ### Whole structs out of boxes, and into them -/
theorem A51_all (x : S51) : (A51 x).toList.all (·.oneCell') = true := by rw [A51_list]; exact List.all_eq_true.2 (L51_one x)
theorem A58_all (x : S58) : (A58 x).toList.all (·.oneCell') = true := by rw [A58_list]; exact List.all_eq_true.2 (L58_one x)
theorem A65_all (x : S65) : (A65 x).toList.all (·.oneCell') = true := by rw [A65_list]; exact List.all_eq_true.2 (L65_one x)
theorem zero51 : (#[.int .i64 0, .int .i64 0, .int .u8 0, .int .u8 0, .int .u8 0, .int .u8 0, .int .u8 0, .int .u8 0, .int .u8 0, .int .u8 0, .int .u8 0, .int .u8 0, .int .u8 0, .int .u8 0, .int .u8 0, .int .u8 0, .int .u8 0, .int .u8 0, .int .u8 0, .int .u8 0, .int .u8 0, .int .u8 0, .int .u8 0, .int .u8 0, .int .u8 0, .int .u8 0, .int .u8 0, .int .u8 0, .int .u8 0, .int .u8 0, .int .u8 0, .int .u8 0, .int .u8 0, .int .u8 0] : Array Value) = A51 z51 := by kernel_rfl
theorem zero58 : (#[.string ⟨#[]⟩, .int .i64 0, .int .i64 0, .int .u8 0, .int .u8 0, .int .u8 0, .int .u8 0, .int .u8 0, .int .u8 0, .int .u8 0, .int .u8 0, .int .u8 0, .int .u8 0, .int .u8 0, .int .u8 0, .int .u8 0, .int .u8 0, .int .u8 0, .int .u8 0, .int .u8 0, .int .u8 0, .int .u8 0, .int .u8 0, .int .u8 0, .int .u8 0, .int .u8 0, .int .u8 0, .int .u8 0, .int .u8 0, .int .u8 0, .int .u8 0, .int .u8 0, .int .u8 0, .int .u8 0, .int .u8 0] : Array Value) = A58 z58 := by kernel_rfl
theorem zero65 : Tryd.zeroCells65 = A65 z65 := by kernel_rfl
theorem lcf {P : Program} {w : World} {g off n : Nat} {l : List Value} (hn : n = l.length) (h : At w ⟨g, off, none⟩ l) : (loadCellsFrom ⟨g, off, none⟩ 0 n #[]).run P w = .ok l.toArray w := by
  subst hn
  exact run_loadCells_list (P := P) w ⟨g, off, none⟩ l h
section
variable {w : World} {g : Nat} {t : TypeId}
/-- a load, by a name of our own: the walk turns a load into it, and so leaves it whole -/
def lvx (t : TypeId) (a : Addr) : Sem Value := loadVar t a
theorem lvx_of (t : TypeId) (a : Addr) : loadVar t a = lvx t a := rfl
theorem lv51 {x : S51} [h : Go.Proofs.YtjllbkeobibnkaaDoorK.Holds w g (.cells (A51 x) t (0, 0))] : (lvx 51 ⟨g, 0, none⟩).run Tryd.prog w = .ok (.agg (A51 x)) w :=
  run_loadVar_at (cs := L51 x) (by have := At_box h.out; rwa [A51_list] at this) Tryd.underlying51 rfl (by rw [L51_len]; exact info51s)
theorem lv51s {x : S51} [h : Go.Proofs.YtjllbkeobibnkaaDoorK.Holds w g (.cells (A51 x) t (0, 0))] : (lvx 49 ⟨g, 2, none⟩).run Tryd.prog w = .ok (.agg (sumL x.f2).toArray) w :=
  run_loadVar_at (cs := sumL x.f2) (At_seg h.out (fun j u h => A51_sum x j u h)) Tryd.underlying49 rfl (by rw [sumL_len]; exact info49s)
theorem lv58 {x : S58} [h : Go.Proofs.YtjllbkeobibnkaaDoorK.Holds w g (.cells (A58 x) t (0, 0))] : (lvx 58 ⟨g, 0, none⟩).run Tryd.prog w = .ok (.agg (A58 x)) w :=
  run_loadVar_at (cs := L58 x) (by have := At_box h.out; rwa [A58_list] at this) Tryd.underlying58 rfl (by rw [L58_len]; exact info58s)
theorem lv58a {x : S58} [h : Go.Proofs.YtjllbkeobibnkaaDoorK.Holds w g (.cells (A58 x) t (0, 0))] : (lvx 51 ⟨g, 1, none⟩).run Tryd.prog w = .ok (.agg (A51 x.f1)) w :=
  run_loadVar_at (cs := L51 x.f1) (At_seg h.out (fun j u h => A58_arch x j u h)) Tryd.underlying51 rfl (by rw [L51_len]; exact info51s)
theorem lv65 {x : S65} [h : Go.Proofs.YtjllbkeobibnkaaDoorK.Holds w g (.cells (A65 x) t (0, 0))] : (lvx 65 ⟨g, 0, none⟩).run Tryd.prog w = .ok (.agg (A65 x)) w :=
  run_loadVar_at (cs := L65 x) (by have := At_box h.out; rwa [A65_list] at this) Tryd.underlying65 rfl (by rw [L65_len]; exact info65s)
theorem lv65a {x : S65} [h : Go.Proofs.YtjllbkeobibnkaaDoorK.Holds w g (.cells (A65 x) t (0, 0))] : (lvx 51 ⟨g, 0, none⟩).run Tryd.prog w = .ok (.agg (A51 x.a)) w :=
  run_loadVar_at (cs := L51 x.a) (At_seg h.out (fun j u h => L65_a x j u h)) Tryd.underlying51 rfl (by rw [L51_len]; exact info51s)
theorem lv65l {x : S65} [h : Go.Proofs.YtjllbkeobibnkaaDoorK.Holds w g (.cells (A65 x) t (0, 0))] : (lvx 51 ⟨g, 34, none⟩).run Tryd.prog w = .ok (.agg (A51 x.l)) w :=
  run_loadVar_at (cs := L51 x.l) (At_seg h.out (fun j u h => L65_l x j u h)) Tryd.underlying51 rfl (by rw [L51_len]; exact info51s)
theorem lv65r {x : S65} [h : Go.Proofs.YtjllbkeobibnkaaDoorK.Holds w g (.cells (A65 x) t (0, 0))] : (lvx 51 ⟨g, 68, none⟩).run Tryd.prog w = .ok (.agg (A51 x.r)) w :=
  run_loadVar_at (cs := L51 x.r) (At_seg h.out (fun j u h => L65_r x j u h)) Tryd.underlying51 rfl (by rw [L51_len]; exact info51s)
/-- A load is opened only where it is of one cell, or of a small struct. -/
theorem lv_sc {P : Program} {ty : TypeId} {a : Addr} (h : (isAgg ty).run P w = .ok false w) : (lvx ty a).run P w = (load a).run P w := by
  unfold lvx loadVar
  rw [Sem.run_bind, h]
  rfl
theorem lv24 {P : Program} {a : Addr} : (lvx 24 a).run P w = (do if ← isAgg 24 then pure (.agg (← loadCells a (← sizeOf 24))) else load a : Sem Value).run P w := rfl
theorem lv33 {P : Program} {a : Addr} : (lvx 33 a).run P w = (do if ← isAgg 33 then pure (.agg (← loadCells a (← sizeOf 33))) else load a : Sem Value).run P w := rfl
theorem scf {P : Program} {off : Nat} {old new cells : Array Value} (h : w.heap[g]? = some (.cells old t (0, 0))) (hfit : off + cells.size ≤ old.size) (h1 : cells.toList.all (·.oneCell') = true) (hnew : new.toList = old.toList.take off ++ cells.toList ++ old.toList.drop (off + cells.size)) :
    (storeCells ⟨g, off, none⟩ cells.toList 0).run P w = .ok () (w.setRow g new) := by
  have hst := run_storeCells_at P g off t cells.toList 0 old w h (by simpa using hfit) (List.all_eq_true.1 h1)
  simp only [Nat.add_zero, Array.length_toList] at hst
  rw [← hnew, Array.toArray_toList] at hst
  exact hst
theorem sc51 {old : Array Value} {x : S51} [h : Go.Proofs.YtjllbkeobibnkaaDoorK.Holds w g (.cells old t (0, 0))] (hs : old.size = 34) : (storeCells ⟨g, 0, none⟩ (A51 x).toList 0).run Tryd.prog w = .ok () (w.setRow g (A51 x)) :=
  scf h.out (by rw [A51_size, hs]; decide) (A51_all x) (by rw [List.take_zero, List.nil_append, List.drop_of_length_le (by rw [A51_size, Array.length_toList, hs]; decide), List.append_nil])
theorem sc58 {old : Array Value} {x : S58} [h : Go.Proofs.YtjllbkeobibnkaaDoorK.Holds w g (.cells old t (0, 0))] (hs : old.size = 35) : (storeCells ⟨g, 0, none⟩ (A58 x).toList 0).run Tryd.prog w = .ok () (w.setRow g (A58 x)) :=
  scf h.out (by rw [A58_size, hs]; decide) (A58_all x) (by rw [List.take_zero, List.nil_append, List.drop_of_length_le (by rw [A58_size, Array.length_toList, hs]; decide), List.append_nil])
theorem sc65 {old : Array Value} {x : S65} [h : Go.Proofs.YtjllbkeobibnkaaDoorK.Holds w g (.cells old t (0, 0))] (hs : old.size = 107) : (storeCells ⟨g, 0, none⟩ (A65 x).toList 0).run Tryd.prog w = .ok () (w.setRow g (A65 x)) :=
  scf h.out (by rw [A65_size, hs]; decide) (A65_all x) (by rw [List.take_zero, List.nil_append, List.drop_of_length_le (by rw [A65_size, Array.length_toList, hs]; decide), List.append_nil])
theorem sc65a {y : S65} {x : S51} [h : Go.Proofs.YtjllbkeobibnkaaDoorK.Holds w g (.cells (A65 y) t (0, 0))] : (storeCells ⟨g, 0, none⟩ (A51 x).toList 0).run Tryd.prog w = .ok () (w.setRow g (A65 { y with a := x })) :=
  scf h.out (by rw [A51_size, A65_size]; decide) (A51_all x) (set_a y x)
theorem sc65l {y : S65} {x : S51} [h : Go.Proofs.YtjllbkeobibnkaaDoorK.Holds w g (.cells (A65 y) t (0, 0))] : (storeCells ⟨g, 34, none⟩ (A51 x).toList 0).run Tryd.prog w = .ok () (w.setRow g (A65 { y with l := x })) :=
  scf h.out (by rw [A51_size, A65_size]; decide) (A51_all x) (set_l y x)
theorem sc65r {y : S65} {x : S51} [h : Go.Proofs.YtjllbkeobibnkaaDoorK.Holds w g (.cells (A65 y) t (0, 0))] : (storeCells ⟨g, 68, none⟩ (A51 x).toList 0).run Tryd.prog w = .ok () (w.setRow g (A65 { y with r := x })) :=
  scf h.out (by rw [A51_size, A65_size]; decide) (A51_all x) (set_r y x)
theorem sc58a {y : S58} {x : S51} [h : Go.Proofs.YtjllbkeobibnkaaDoorK.Holds w g (.cells (A58 y) t (0, 0))] : (storeCells ⟨g, 1, none⟩ (A51 x).toList 0).run Tryd.prog w = .ok () (w.setRow g (A58 { y with f1 := x })) :=
  scf h.out (by rw [A51_size, A58_size]; decide) (A51_all x) (by
    rw [List.drop_of_length_le (by rw [A51_size, Array.length_toList, A58_size]; decide), List.append_nil, A58_list, A58_list, A51_list]
    rfl)
end
instance (W : World) (g : Nat) (cs : Array Value) : Prev (W.setRow g cs) W (.row g) := ⟨kept_row (grown_setRow W g cs)⟩
instance (W : World) (g : Nat) (old cs : Array Value) (t : TypeId) [h : Go.Proofs.YtjllbkeobibnkaaDoorK.Holds W g (.cells old t (0, 0))] : Go.Proofs.YtjllbkeobibnkaaDoorK.Holds (W.setRow g cs) g (.cells cs t (0, 0)) := ⟨setRow_heap W g old cs t (0, 0) h.out⟩
instance (n : Nat) : Apart n (.row (n + 1 + 1)) := ⟨by show n ≠ n + 1 + 1; omega⟩
instance (n : Nat) : Apart n (.row (n + 1 + 1 + 1)) := ⟨by show n ≠ n + 1 + 1 + 1; omega⟩
instance (n : Nat) : Apart n (.row (n + 1 + 1 + 1 + 1)) := ⟨by show n ≠ n + 1 + 1 + 1 + 1; omega⟩
instance (n : Nat) : OwnB n (.row (n + 1 + 1)) := own_row (by omega)
instance (n : Nat) : OwnB n (.row (n + 1 + 1 + 1)) := own_row (by omega)
theorem set51 (x : S51) (v : Int) : (A51 x).setIfInBounds 0 (.int .i64 v) = A51 { x with f0 := v } := by
  apply Array.toList_inj.1
  rw [Array.toList_setIfInBounds, A51_list, A51_list]
  rfl
theorem set58 (x : S58) (v : ByteArray) : (A58 x).setIfInBounds 0 (.string v) = A58 { x with f0 := v } := by
  apply Array.toList_inj.1
  rw [Array.toList_setIfInBounds, A58_list, A58_list]
  rfl
theorem set65l0 (x : S65) (v : Int) : (A65 x).setIfInBounds 34 (.int .i64 v) = A65 { x with l := { x.l with f0 := v } } := by
  apply Array.toList_inj.1
  rw [Array.toList_setIfInBounds, A65_list, A65_list]
  unfold L65
  rw [List.set_append_right _ _ (by rw [L51_len]; decide), L51_len, List.set_append_left _ _ (by rw [L51_len]; decide)]
  rfl
section
variable {W : World} {g : Nat} {t : TypeId}
theorem holds_set {cs ds : Array Value} {j : Nat} {v : Value} (h : Go.Proofs.YtjllbkeobibnkaaDoorK.Holds W g (.cells cs t (0, 0))) (e : cs.setIfInBounds j v = ds) : Go.Proofs.YtjllbkeobibnkaaDoorK.Holds (W.setCell ⟨g, j, none⟩ v) g (.cells ds t (0, 0)) := ⟨by have := blk_set h.out j v; rwa [e] at this⟩
instance (priority := high) {x : S51} {v : Int} [h : Go.Proofs.YtjllbkeobibnkaaDoorK.Holds W g (.cells (A51 x) t (0, 0))] : Go.Proofs.YtjllbkeobibnkaaDoorK.Holds (W.setCell ⟨g, 0, none⟩ (.int .i64 v)) g (.cells (A51 { x with f0 := v }) t (0, 0)) := holds_set h (set51 x v)
instance (priority := high) {x : S58} {v : ByteArray} [h : Go.Proofs.YtjllbkeobibnkaaDoorK.Holds W g (.cells (A58 x) t (0, 0))] : Go.Proofs.YtjllbkeobibnkaaDoorK.Holds (W.setCell ⟨g, 0, none⟩ (.string v)) g (.cells (A58 { x with f0 := v }) t (0, 0)) := holds_set h (set58 x v)
instance (priority := high) {x : S65} {v : Int} [h : Go.Proofs.YtjllbkeobibnkaaDoorK.Holds W g (.cells (A65 x) t (0, 0))] : Go.Proofs.YtjllbkeobibnkaaDoorK.Holds (W.setCell ⟨g, 34, none⟩ (.int .i64 v)) g (.cells (A65 { x with l := { x.l with f0 := v } }) t (0, 0)) := holds_set h (set65l0 x v)
instance (priority := high) {x : S65} {b : Bool} [h : Go.Proofs.YtjllbkeobibnkaaDoorK.Holds W g (.cells (A65 x) t (0, 0))] : Go.Proofs.YtjllbkeobibnkaaDoorK.Holds (W.setCell ⟨g, 102, none⟩ (.bool b)) g (.cells (A65 { x with inA := b }) t (0, 0)) := holds_set h (set_inA x b)
instance (priority := high) {x : S65} {b : Bool} [h : Go.Proofs.YtjllbkeobibnkaaDoorK.Holds W g (.cells (A65 x) t (0, 0))] : Go.Proofs.YtjllbkeobibnkaaDoorK.Holds (W.setCell ⟨g, 103, none⟩ (.bool b)) g (.cells (A65 { x with inL := b }) t (0, 0)) := holds_set h (set_inL x b)
instance (priority := high) {x : S65} {b : Bool} [h : Go.Proofs.YtjllbkeobibnkaaDoorK.Holds W g (.cells (A65 x) t (0, 0))] : Go.Proofs.YtjllbkeobibnkaaDoorK.Holds (W.setCell ⟨g, 104, none⟩ (.bool b)) g (.cells (A65 { x with inR := b }) t (0, 0)) := holds_set h (set_inR x b)
instance (priority := high) {x : S65} {b : Bool} [h : Go.Proofs.YtjllbkeobibnkaaDoorK.Holds W g (.cells (A65 x) t (0, 0))] : Go.Proofs.YtjllbkeobibnkaaDoorK.Holds (W.setCell ⟨g, 105, none⟩ (.bool b)) g (.cells (A65 { x with here := b }) t (0, 0)) := holds_set h (set_here x b)
instance (priority := high) {x : S65} {b : Bool} [h : Go.Proofs.YtjllbkeobibnkaaDoorK.Holds W g (.cells (A65 x) t (0, 0))] : Go.Proofs.YtjllbkeobibnkaaDoorK.Holds (W.setCell ⟨g, 106, none⟩ (.bool b)) g (.cells (A65 { x with there := b }) t (0, 0)) := holds_set h (set_there x b)
end
end Go.Proofs.YtjllbkeobibnkaaDoor.Q

namespace Go.Proofs.YtjllbkeobibnkaaDoorK
open Go Go.RowKit Go.Proofs.YtjllbkeobibnkaaDoorW.PrintWords
/-! A world that came of another one by new blocks and draws alone: what was known there is known here. For printed texts, made shorter. -/
class Up (W W' : World) : Prop where
  out : Below W.heap.size W W'
variable {w W W' : World}
instance : Up W W := ⟨Below.refl _ _⟩
instance [h : Up W W'] (o : Obj) : Up W (W'.alloc o) := ⟨below_alloc h.out o⟩
instance [h : Up W W'] (n : Nat) : Up W (W'.drewN n) := ⟨pw_below_drewN h.out n⟩
instance [h : Up W W'] : Up W W'.drew := ⟨h.out.drew⟩
theorem belU (h : Below w.heap.size w W) [u : Up W W'] : Below w.heap.size w W' := below_step h u.out
theorem sizU (h : Below w.heap.size w W) [u : Up W W'] : w.heap.size ≤ W'.heap.size := (belU h).size
theorem blkU {g : Nat} {o : Obj} (h : W.heap[g]? = some o) [u : Up W W'] : W'.heap[g]? = some o := blk_below h u.out
theorem RU {α : Type} {d : Kd α} {e base : Nat} {ok : Nat → Prop} {v : Value} {xs : List α} (h : d.R e W base ok v xs) [u : Up W W'] : d.R e W' base ok v xs := Kd.R_below h u.out
theorem CU {α : Type} {d : Kd α} {A : Option Addr} {n : Nat} {xs : List α} (h : d.C W A n xs) [u : Up W W'] : d.C W' A n xs := Kd.C_below h u.out
/-- .. and by stores into block g. -/
class UpG (g : Nat) (W W' : World) : Prop where
  out : ∀ w : World, w.heap.size ≤ g → Below w.heap.size w W → Below w.heap.size w W'
instance (g : Nat) : UpG g W W := ⟨fun _ _ h => h⟩
instance (g : Nat) [h : UpG g W W'] (o : Obj) : UpG g W (W'.alloc o) := ⟨fun w a b => below_alloc (h.out w a b) o⟩
instance (g : Nat) [h : UpG g W W'] (n : Nat) : UpG g W (W'.drewN n) := ⟨fun w a b => pw_below_drewN (h.out w a b) n⟩
instance (g : Nat) [h : UpG g W W'] : UpG g W W'.drew := ⟨fun w a b => (h.out w a b).drew⟩
instance (g j : Nat) (v : Value) [h : UpG g W W'] : UpG g W (W'.setCell ⟨g, j, none⟩ v) := ⟨fun w a b => below_set (h.out w a b) a⟩
theorem belG {g : Nat} (h : Below w.heap.size w W) (hg : w.heap.size ≤ g) [u : UpG g W W'] : Below w.heap.size w W' := u.out w hg h
theorem sizG {g : Nat} (h : Below w.heap.size w W) (hg : w.heap.size ≤ g) [u : UpG g W W'] : w.heap.size ≤ W'.heap.size := (belG h hg).size
class UpG2 (g1 g2 : Nat) (W W' : World) : Prop where
  out : ∀ w : World, w.heap.size ≤ g1 → w.heap.size ≤ g2 → Below w.heap.size w W → Below w.heap.size w W'
instance (g1 g2 : Nat) : UpG2 g1 g2 W W := ⟨fun _ _ _ h => h⟩
instance (g1 g2 : Nat) [h : UpG2 g1 g2 W W'] (o : Obj) : UpG2 g1 g2 W (W'.alloc o) := ⟨fun w a1 a2 b => below_alloc (h.out w a1 a2 b) o⟩
instance (g1 g2 : Nat) [h : UpG2 g1 g2 W W'] (n : Nat) : UpG2 g1 g2 W (W'.drewN n) := ⟨fun w a1 a2 b => pw_below_drewN (h.out w a1 a2 b) n⟩
instance (g1 g2 : Nat) [h : UpG2 g1 g2 W W']  : UpG2 g1 g2 W W'.drew := ⟨fun w a1 a2 b => (h.out w a1 a2 b).drew⟩
instance (g1 g2 j : Nat) (v : Value) [h : UpG2 g1 g2 W W'] : UpG2 g1 g2 W (W'.setCell ⟨g1, j, none⟩ v) := ⟨fun w a1 a2 b => below_set (h.out w a1 a2 b) a1⟩
instance (g1 g2 j : Nat) (v : Value) [h : UpG2 g1 g2 W W'] : UpG2 g1 g2 W (W'.setCell ⟨g2, j, none⟩ v) := ⟨fun w a1 a2 b => below_set (h.out w a1 a2 b) a2⟩
theorem belG2 {g1 g2 : Nat} (h : Below w.heap.size w W) (h1 : w.heap.size ≤ g1) (h2 : w.heap.size ≤ g2) [u : UpG2 g1 g2 W W'] : Below w.heap.size w W' := u.out w h1 h2 h
class UpG3 (g1 g2 g3 : Nat) (W W' : World) : Prop where
  out : ∀ w : World, w.heap.size ≤ g1 → w.heap.size ≤ g2 → w.heap.size ≤ g3 → Below w.heap.size w W → Below w.heap.size w W'
instance (g1 g2 g3 : Nat) : UpG3 g1 g2 g3 W W := ⟨fun _ _ _ _ h => h⟩
instance (g1 g2 g3 : Nat) [h : UpG3 g1 g2 g3 W W'] (o : Obj) : UpG3 g1 g2 g3 W (W'.alloc o) := ⟨fun w a1 a2 a3 b => below_alloc (h.out w a1 a2 a3 b) o⟩
instance (g1 g2 g3 : Nat) [h : UpG3 g1 g2 g3 W W'] (n : Nat) : UpG3 g1 g2 g3 W (W'.drewN n) := ⟨fun w a1 a2 a3 b => pw_below_drewN (h.out w a1 a2 a3 b) n⟩
instance (g1 g2 g3 : Nat) [h : UpG3 g1 g2 g3 W W']  : UpG3 g1 g2 g3 W W'.drew := ⟨fun w a1 a2 a3 b => (h.out w a1 a2 a3 b).drew⟩
instance (g1 g2 g3 j : Nat) (v : Value) [h : UpG3 g1 g2 g3 W W'] : UpG3 g1 g2 g3 W (W'.setCell ⟨g1, j, none⟩ v) := ⟨fun w a1 a2 a3 b => below_set (h.out w a1 a2 a3 b) a1⟩
instance (g1 g2 g3 j : Nat) (v : Value) [h : UpG3 g1 g2 g3 W W'] : UpG3 g1 g2 g3 W (W'.setCell ⟨g2, j, none⟩ v) := ⟨fun w a1 a2 a3 b => below_set (h.out w a1 a2 a3 b) a2⟩
instance (g1 g2 g3 j : Nat) (v : Value) [h : UpG3 g1 g2 g3 W W'] : UpG3 g1 g2 g3 W (W'.setCell ⟨g3, j, none⟩ v) := ⟨fun w a1 a2 a3 b => below_set (h.out w a1 a2 a3 b) a3⟩
theorem belG3 {g1 g2 g3 : Nat} (h : Below w.heap.size w W) (h1 : w.heap.size ≤ g1) (h2 : w.heap.size ≤ g2) (h3 : w.heap.size ≤ g3) [u : UpG3 g1 g2 g3 W W'] : Below w.heap.size w W' := u.out w h1 h2 h3 h
/-- .. and by stores into another block than g. -/
class FarG (g g' : Nat) (W W' : World) : Prop where
  out : g ≠ g' → ∀ o : Obj, W.heap[g]? = some o → W'.heap[g]? = some o
instance (g g' : Nat) : FarG g g' W W := ⟨fun _ _ h => h⟩
instance (g g' : Nat) [h : FarG g g' W W'] (o : Obj) : FarG g g' W (W'.alloc o) := ⟨fun n x a => blk_alloc (h.out n x a) o⟩
instance (g g' : Nat) [h : FarG g g' W W'] (n : Nat) : FarG g g' W (W'.drewN n) := ⟨fun m x a => blk_drewN (h.out m x a) n⟩
instance (g g' : Nat) [h : FarG g g' W W'] : FarG g g' W W'.drew := ⟨fun n x a => blk_drew (h.out n x a)⟩
instance (g g' j : Nat) (v : Value) [h : FarG g g' W W'] : FarG g g' W (W'.setCell ⟨g', j, none⟩ v) := ⟨fun n x a => (Below.heap_setCell W' ⟨g', j, none⟩ v g n).trans (h.out n x a)⟩
theorem blkF {g g' : Nat} {o : Obj} (h : W.heap[g]? = some o) (n : g ≠ g') [u : FarG g g' W W'] : W'.heap[g]? = some o := u.out n o h
/-- .. and the cells of block g, stored into one by one. -/
class PutG (g : Nat) (W W' : World) (f : outParam (List Value → List Value)) : Prop where
  out : ∀ (cs : Array Value) (t : TypeId), W.heap[g]? = some (.cells cs t (0, 0)) → W'.heap[g]? = some (.cells (f cs.toList).toArray t (0, 0))
section
variable {f : List Value → List Value}
instance (g : Nat) : PutG g W W (fun cs => cs) := ⟨fun _ _ h => h⟩
instance (g : Nat) [h : PutG g W W' f] (o : Obj) : PutG g W (W'.alloc o) f := ⟨fun cs t a => blk_alloc (h.out cs t a) o⟩
instance (g : Nat) [h : PutG g W W' f] (n : Nat) : PutG g W (W'.drewN n) f := ⟨fun cs t a => blk_drewN (h.out cs t a) n⟩
instance (g : Nat) [h : PutG g W W' f] : PutG g W W'.drew f := ⟨fun cs t a => blk_drew (h.out cs t a)⟩
instance (g j : Nat) (v : Value) [h : PutG g W W' f] : PutG g W (W'.setCell ⟨g, j, none⟩ v) (fun cs => (f cs).set j v) := ⟨fun cs t a => by
  have := blk_set (h.out cs t a) j v
  rwa [List.setIfInBounds_toArray] at this⟩
theorem blkP {g : Nat} {t : TypeId} {cs cs' : Array Value} (h : W.heap[g]? = some (.cells cs t (0, 0))) [u : PutG g W W' f] (e : f cs.toList = cs'.toList) : W'.heap[g]? = some (.cells cs' t (0, 0)) := by
  have := u.out cs t h
  rw [e] at this
  exact this
end
end Go.Proofs.YtjllbkeobibnkaaDoorK

namespace Go.Proofs.YtjllbkeobibnkaaDoorK
open Go Go.RowKit Go.Proofs.YtjllbkeobibnkaaDoorW.PrintWords
/-! A slice in memory of the call's own that is only read: its row may be longer than its capacity ('l[:n:n]' of a longer row). -/
def SR {α : Type} (d : Kd α) (e : Nat) (w : World) (base : Nat) (ok : Nat → Prop) (v : Value) (xs : List α) : Prop :=
  (∀ k, v.ownBlock = some k → ok k ∧ base ≤ k ∧ k < w.heap.size) ∧ ∃ A c, v = .slice A xs.length c ∧ xs.length ≤ c ∧ d.C w A xs.length xs
section
variable {α : Type} {d : Kd α} {e : Nat} {w w1 : World} {base : Nat} {ok ok' : Nat → Prop} {v u : Value} {xs : List α}
theorem SR_ofR (h : d.R e w base ok v xs) : SR d e w base ok v xs := ⟨fun k hk => ⟨h.1 k hk, Kd.R_base h k hk, Kd.R_lt h k hk⟩, Kd.R_reads h⟩
theorem SR_nil (d : Kd α) (e : Nat) (w : World) (base : Nat) (ok : Nat → Prop) : SR d e w base ok (.slice none 0 0) [] := SR_ofR (Kd.R_nil d e w base ok)
theorem SR_mono (h : SR d e w base ok v xs) (hok : ∀ k, ok k → ok' k) : SR d e w base ok' v xs := ⟨fun k hk => ⟨hok k (h.1 k hk).1, (h.1 k hk).2⟩, h.2⟩
theorem SR_below (h : SR d e w base ok v xs) (hb : Below w.heap.size w w1) : SR d e w1 base ok v xs := by
  obtain ⟨h1, A, c, h2, h3, h4⟩ := h
  exact ⟨fun k hk => ⟨(h1 k hk).1, (h1 k hk).2.1, Nat.lt_of_lt_of_le (h1 k hk).2.2 hb.size⟩, A, c, h2, h3, Kd.C_below h4 hb⟩
/-- Either kind of a row tells the weaker one. -/
class ToS (p : Prop) (q : outParam Prop) : Prop where
  out : p → q
instance : ToS (d.R e w base ok v xs) (SR d e w base ok v xs) := ⟨SR_ofR⟩
instance : ToS (SR d e w base ok v xs) (SR d e w base ok v xs) := ⟨id⟩
section
variable {p : Prop}
theorem S_lower {base' : Nat} [t : ToS p (SR d e w base ok v xs)] (h : p) (hb : base' ≤ base) : SR d e w base' ok v xs := ⟨fun k hk => ⟨((t.out h).1 k hk).1, Nat.le_trans hb ((t.out h).1 k hk).2.1, ((t.out h).1 k hk).2.2⟩, (t.out h).2⟩
theorem S_below [t : ToS p (SR d e w base ok v xs)] (h : p) (hb : Below w.heap.size w w1) : SR d e w1 base ok v xs := SR_below (t.out h) hb
theorem S_base [t : ToS p (SR d e w base ok v xs)] (h : p) : ∀ k, v.ownBlock = some k → base ≤ k := fun k hk => ((t.out h).1 k hk).2.1
theorem S_lt [t : ToS p (SR d e w base ok v xs)] (h : p) : ∀ k, v.ownBlock = some k → k < w.heap.size := fun k hk => ((t.out h).1 k hk).2.2
theorem S_elder' [t : ToS p (SR d e w base ok u xs)] (hu : p) (hbase : ∀ k, v.ownBlock = some k → w.heap.size ≤ k) (hb : Below w.heap.size w w1) : SR d e w1 base (fun k => ok k ∧ some k ≠ v.ownBlock) u xs := by
  obtain ⟨h1, h2⟩ := SR_below (t.out hu) hb
  refine ⟨fun k hk => ⟨⟨(h1 k hk).1, fun he => ?_⟩, (h1 k hk).2⟩, h2⟩
  have a := hbase k he.symm
  have b := ((t.out hu).1 k hk).2.2
  omega
theorem S_new' {W : World} [t : ToS p (SR d e w1 W.heap.size ok v xs)] (h : p) (hlt : ∀ k, u.ownBlock = some k → k < W.heap.size) : SR d e w1 W.heap.size (fun k => ok k ∧ some k ≠ u.ownBlock) v xs := by
  obtain ⟨h1, h2⟩ := t.out h
  refine ⟨fun k hk => ⟨⟨(h1 k hk).1, fun he => ?_⟩, (h1 k hk).2⟩, h2⟩
  have a := hlt k he.symm
  have b := (h1 k hk).2.1
  omega
theorem S_slice [t : ToS p (SR d e w base ok v xs)] (h : p) : ∃ A c, v = .slice A xs.length c := by
  obtain ⟨_, A, c, h2, _⟩ := t.out h
  exact ⟨A, c, h2⟩
theorem S_reads' {A : Option Addr} {n c : Nat} [t : ToS p (SR d e w base ok (.slice A n c) xs)] (h : p) : n = xs.length ∧ n ≤ c ∧ d.C w A xs.length xs := by
  obtain ⟨_, A', c', he, hl, hr⟩ := t.out h
  injection he with h1 h2 h3
  subst h1
  exact ⟨h2, by omega, hr⟩
theorem SU {W W' : World} [t : ToS p (SR d e W base ok v xs)] (h : p) [up : Up W W'] : SR d e W' base ok v xs := SR_below (t.out h) up.out
theorem S_alloc [t : ToS p (SR d e w base ok v xs)] (h : p) (o : Obj) : SR d e (w.alloc o) base ok v xs := SR_below (t.out h) (below_alloc (Below.refl _ _) o)
theorem S_drew [t : ToS p (SR d e w base ok v xs)] (h : p) : SR d e w.drew base ok v xs := SR_below (t.out h) (below_drew (Below.refl _ _))
theorem S_drewN [t : ToS p (SR d e w base ok v xs)] (h : p) (m : Nat) : SR d e (w.drewN m) base ok v xs := SR_below (t.out h) (pw_below_drewN (Below.refl _ _) m)
theorem S_mono [t : ToS p (SR d e w base ok v xs)] (h : p) (hok : ∀ k, ok k → ok' k) : SR d e w base ok' v xs := SR_mono (t.out h) hok
end
end
end Go.Proofs.YtjllbkeobibnkaaDoorK

namespace Go.Proofs.YtjllbkeobibnkaaDoor.Q
open Go Go.Proofs Go.Shelf Go.RowKit Go.Proofs.YtjllbkeobibnkaaDoorK Go.Proofs.YtjllbkeobibnkaaDoorW.PrintWords Go.Proofs.YtjllbkeobibnkaaDoorW.PrintLast Go.Proofs.YtjllbkeobibnkaaDoorW.PrintMore
set_option linter.unusedSimpArgs false
set_option linter.unusedVariables false
/-! ### archive.Find, merge.alike -/
/-- Where the first one stands that is so; -1: none is. -/
def idxK (p : S58 → Bool) : Nat → List S58 → Int
  | _, [] => -1
  | i, x :: l => if p x = true then (i : Int) else idxK p (i + 1) l
def eqP (p : ByteArray) (k : S58) : Bool := k.f0.toList == p.toList
def findS : List S58 → ByteArray → S51 × Bool
  | [], _ => (z51, false)
  | k :: l, p => if eqP p k = true then (k.f1, true) else findS l p
theorem idx_find (p : ByteArray) (l : List S58) : ∀ i : Nat, (idxK (eqP p) i l = -1 ∧ findS l p = (z51, false)) ∨ ∃ j, ∃ h : j < l.length, idxK (eqP p) i l = ((i + j : Nat) : Int) ∧ findS l p = (l[j].f1, true) := by
  induction l with
  | nil => intro i; exact .inl ⟨rfl, rfl⟩
  | cons k l ih =>
    intro i
    unfold idxK findS
    by_cases h : eqP p k = true
    · rw [if_pos h, if_pos h]
      exact .inr ⟨0, Nat.zero_lt_succ _, rfl, rfl⟩
    · rw [if_neg h, if_neg h]
      rcases ih (i + 1) with ⟨h1, h2⟩ | ⟨j, hj, h1, h2⟩
      · exact .inl ⟨h1, h2⟩
      · exact .inr ⟨j + 1, Nat.succ_lt_succ hj, by rw [h1]; congr 1; omega, h2⟩
/-- What is asked of a predicate that is bound to one box. -/
def PredK (g b : Nat) (p : S58 → Bool) (l : List S58) (w : World) : Prop := ∀ W x, x ∈ l → Below w.heap.size w W → Calls Tryd.prog g #[.agg (A58 x), .pointer (some ⟨b, 0, none⟩)] W fun e w' => e = .returned (.bool (p x)) ∧ Below W.heap.size W w'
attribute [local go_sem] A51_size A51_0 A51_1 A51_g0 A51_g1 A58_size A58_0 A58_1 A58_2 A58_g0 A58_g1 A58_g2 cell_held frozen_held
set_option maxRecDepth 100000 in
set_option maxHeartbeats 1000000 in
theorem idxk_any (w : World) (A : Option Addr) (c : Nat) (l : List S58) (hC : k58.C w A l.length l) (hl : l.length ≤ 1048576) (g b : Nat) (eg : ∀ args w, (callFunc g args).run Tryd.prog w = .ok (.enter g args) w) (p : S58 → Bool) (hp : PredK g b p l w) :
    Calls Tryd.prog 51 #[.slice A l.length c, .func (.func g) #[] #[.pointer (some ⟨b, 0, none⟩)]] w fun e w' => e = .returned (.int .i64 (idxK p 0 l)) ∧ Below w.heap.size w w' := by
  have HR := Aside0.mk hC
  have HP := Aside0.mk hp
  have HB0 := Aside0.mk (Below.refl w.heap.size w)
  have hu58 := Tryd.underlying58
  clear hC hp
  go_enter Tryd.func51, Tryd.ntmps51
  go_wp2_with fail
  go_loopw [8] (fun i wr => ∃ j : Nat, j ≤ l.length ∧ i = .int .i64 (j : Int) ∧ Aside0 (idxK p j (l.drop j) = idxK p 0 l) ∧ Aside0 (Below w.heap.size w wr)) (fun i _ => l.length - (intOf i).toNat)
  case atStart => exact ⟨0, Nat.zero_le _, rfl, ⟨rfl⟩, HB0⟩
  case round =>
    obtain ⟨j, hj, rfl, HI, HB⟩ := hrel
    by_cases hlt : j < l.length
    · obtain ⟨ad, e, x0⟩ := C58_at HR.out j hlt
      subst e
      have hd := List.drop_eq_getElem_cons hlt
      have hmem := List.getElem_mem hlt
      have hI := HI.out
      rw [hd] at hI
      simp only [idxK] at hI
      have hpw := fun W => HP.out W l[j] hmem
      generalize l[j] = x at x0 hI hpw
      replace x0 := At_below x0 HB.out
      have X0 := Aside0.mk x0
      have HPW := Aside0.mk hpw
      clear hd hmem hpw HI x0
      have bw : Bel w.heap.size w wr := ⟨fun _ => HB.out⟩
      cases hx : p x with
      | true =>
        rw [if_pos hx] at hI
        have HI := Aside0.mk hI
        have HPW := HPW.out
        rw [hx] at HPW
        have HPW := Aside0.mk HPW
        clear hI hx
        go_wp2_with (refine seg_load rfl 58 (.tmp 14) rfl X0.out (A58 x) rfl rfl hu58 rfl (by rw [L58_len]; exact info58s) ?_)
        refine (HPW.out _ (bel _ _)).mono ?_
        rintro e w1 ⟨rfl, hb1⟩
        have p1 := prev_call hb1
        go_wp2_with fail
        go_ret
        exact ⟨by rw [← HI.out]; rfl, bel _ _⟩
      | false =>
        rw [if_neg (by rw [hx]; decide)] at hI
        have HI := Aside0.mk hI
        have HPW := HPW.out
        rw [hx] at HPW
        have HPW := Aside0.mk HPW
        clear hI hx
        go_wp2_with (refine seg_load rfl 58 (.tmp 14) rfl X0.out (A58 x) rfl rfl hu58 rfl (by rw [L58_len]; exact info58s) ?_)
        refine (HPW.out _ (bel _ _)).mono ?_
        rintro e w1 ⟨rfl, hb1⟩
        have p1 := prev_call hb1
        go_wp2_with fail
        go_roundw
        case rel => exact ⟨j + 1, by omega, by go_num, HI, ⟨bel _ _⟩⟩
        case measure => simp [intOf]; omega
    · have hI := HI.out
      rw [List.drop_of_length_le (by omega)] at hI
      have HI' := Aside0.mk hI
      clear hI HI
      go_wp2_with fail
      go_ret
      exact ⟨by rw [← HI'.out]; rfl, HB.out⟩
set_option maxRecDepth 100000 in
theorem find1_any (w : World) (b : Nat) (p : ByteArray) (h : w.heap[b]? = some (.cells #[.string p] 9 (0, 0))) (l : List S58) : PredK 52 b (eqP p) l w := by
  intro W x _ hb
  have hW := (hb.block b (blk_lt h)).trans h
  have hh : Go.Proofs.YtjllbkeobibnkaaDoorK.Holds W b (.cells #[.string p] 9) := ⟨hW⟩
  have x0 : W.cell? ⟨b, 0, none⟩ = some (.string p) := cell_held.trans rfl
  have hlt := World.block_lt_of_cell? W _ x0
  clear hb hW h
  show Calls _ _ _ _ fun e w' => e = .returned (.bool (x.f0.toList == p.toList)) ∧ _
  go_enter Tryd.func52, Tryd.ntmps52
  go_wp2_with fail
  go_ret
  exact ⟨rfl, bel _ _⟩
set_option maxRecDepth 100000 in
set_option maxHeartbeats 1000000 in
theorem Find_any (w : World) (A : Option Addr) (c : Nat) (l : List S58) (p : ByteArray) (hC : k58.C w A l.length l) (hl : l.length ≤ 1048576) :
    Calls Tryd.prog 21 #[.slice A l.length c, .string p] w fun e w' => e = .returned (.tuple #[.agg (A51 (findS l p).1), .bool (findS l p).2]) ∧ Below w.heap.size w w' := by
  have eg : ∀ args w, (callFunc 52 args).run Tryd.prog w = .ok (.enter 52 args) w := enters_of Tryd.func52 (by kernel_rfl) rfl
  have hu51 := Tryd.underlying51
  have HI := Aside0.mk (fun W b hb hC => idxk_any W A c l hC hl 52 b eg (eqP p) (find1_any W b p hb l))
  have HC := Aside0.mk hC
  have hi := idx_find p l 0
  simp only [Nat.zero_add] at hi
  rcases hi with ⟨h1, h2⟩ | ⟨j, hj, h1, h2⟩
  · rw [h2]
    rw [h1] at HI
    clear h1 h2 eg hC
    go_enter Tryd.func21, Tryd.ntmps21
    go_wp2_with fail
    refine (HI.out _ _ held (Kd.C_below HC.out (bel _ _))).mono ?_
    rintro e w1 ⟨rfl, hb1⟩
    have p1 := prev_call hb1
    clear hb1
    go_wp2_with (
      (refine box_store rfl rfl 51 (.tmp 4) (.tmp 12) rfl held (A51 z51) rfl rfl (by rw [A51_size]; exact info51s) (by rfl) (A51_all z51) ?_
       intro wz hxz hgz
       have pz := prev_row hgz
       have HZ := Aside0.mk hxz
       clear hxz hgz))
    refine bodyPost_ret (results_row_tmp rfl _ _ (.bool false) HZ.out rfl rfl hu51 rfl (by rw [A51_size]; exact info51s)) rfl ?_
    exact ⟨rfl, bel _ _⟩
  · rw [h2]
    rw [h1] at HI
    obtain ⟨ad, e, x0⟩ := C58_at hC j hj
    subst e
    generalize l[j] = x at x0
    have X0 := Aside0.mk (At58 x0).2.2.2.1
    clear h1 h2 eg hC x0
    go_enter Tryd.func21, Tryd.ntmps21
    go_wp2_with fail
    refine (HI.out _ _ held (Kd.C_below HC.out (bel _ _))).mono ?_
    rintro e w1 ⟨rfl, hb1⟩
    have p1 := prev_call hb1
    clear hb1
    have x1 := At_below X0.out (bel w w1)
    have X1 := Aside0.mk x1
    clear x1
    go_wp2_with (first
      | (refine seg_load rfl 51 (.tmp 16) rfl X1.out (A51 x.f1) rfl rfl hu51 rfl (by rw [L51_len]; exact info51s) ?_)
      | (refine box_store rfl rfl 51 (.tmp 4) (.tmp 17) rfl held (A51 x.f1) rfl rfl (by rw [A51_size]; exact info51s) (by rw [A51_size]; rfl) (A51_all _) ?_
         intro wz hxz hgz
         have pz := prev_row hgz
         have HZ := Aside0.mk hxz
         clear hxz hgz))
    refine bodyPost_ret (results_row_tmp rfl _ _ (.bool true) HZ.out rfl rfl hu51 rfl (by rw [A51_size]; exact info51s)) rfl ?_
    exact ⟨rfl, bel _ _⟩
end Go.Proofs.YtjllbkeobibnkaaDoor.Q

namespace Go.Proofs.YtjllbkeobibnkaaDoor.Q
open Go Go.Proofs Go.Shelf Go.RowKit Go.Proofs.YtjllbkeobibnkaaDoorK Go.Proofs.YtjllbkeobibnkaaDoorW.PrintWords Go.Proofs.YtjllbkeobibnkaaDoorW.PrintLast Go.Proofs.YtjllbkeobibnkaaDoorW.PrintMore
set_option linter.unusedSimpArgs false
set_option linter.unusedVariables false
/-! ### merge.alike; the document's Alike, Find -/
def alikeS (a b : S51) : Bool := a.f1 == b.f1 && a.f2.l == b.f2.l
theorem info5s : ∃ i, Tryd.prog.info? 5 = some i := Option.isSome_iff_exists.1 (by kernel_rfl)
theorem eqS (d : Nat) (w : World) (s r : Sum) : (Op.equalIn (d + 2) 49 (.agg (sumL s).toArray) (.agg (sumL r).toArray)).run Tryd.prog w = .ok (s.l == r.l) w := by
  obtain ⟨i0, hi⟩ := info5s
  exact eq_sum d Tryd.underlying49 Tryd.underlying5 (by kernel_rfl) hi _ _ s r (by simp) (by simp)
attribute [local go_sem ↓ high] lvx_of
attribute [local go_sem] lv_sc lv24 lv33
attribute [local go_sem ↓ high] lv51 lv51s lv58 lv58a lv65 lv65a lv65l lv65r sc51 sc58 sc65 sc65a sc65l sc65r sc58a
attribute [local go_sem] A51_size A51_0 A51_1 A51_g0 A51_g1 A58_size A58_0 A58_1 A58_2 A58_g0 A58_g1 A58_g2 cell_held frozen_held
attribute [local go_sem high] eqS
set_option maxRecDepth 100000 in
set_option maxHeartbeats 1000000 in
theorem alike_any (w : World) (x y : S51) : Calls Tryd.prog 54 #[.agg (A51 x), .agg (A51 y)] w fun e w' => e = .returned (.bool (alikeS x y)) ∧ Below w.heap.size w w' := by
  unfold alikeS
  cases h1 : (x.f1 == y.f1)
  · rw [Bool.false_and]
    go_enter Tryd.func54, Tryd.ntmps54
    go_wp2_with fail
    go_ret
    exact ⟨rfl, bel _ _⟩
  · rw [Bool.true_and]
    go_enter Tryd.func54, Tryd.ntmps54
    go_wp2_with fail
    go_ret
    exact ⟨rfl, bel _ _⟩

set_option maxRecDepth 100000 in
set_option maxHeartbeats 1000000 in
theorem Alike_any (w : World) (x y : S51) : Calls Tryd.prog 22 #[.agg (A51 x), .agg (A51 y)] w fun e w' => e = .returned (.bool (alikeS x y)) ∧ Below w.heap.size w w' := by
  unfold alikeS
  cases h1 : (x.f1 == y.f1)
  · rw [Bool.false_and]
    go_enter Tryd.func22, Tryd.ntmps22
    go_wp2_with fail
    go_ret
    exact ⟨rfl, bel _ _⟩
  · rw [Bool.true_and]
    go_enter Tryd.func22, Tryd.ntmps22
    go_wp2_with fail
    go_ret
    exact ⟨rfl, bel _ _⟩

set_option maxRecDepth 100000 in
set_option maxHeartbeats 1000000 in
theorem rFind_any (w : World) (A : Option Addr) (c : Nat) (l : List S58) (p : ByteArray) (hC : k58.C w A l.length l) (hl : l.length ≤ 1048576) :
    Calls Tryd.prog 38 #[.slice A l.length c, .string p] w fun e w' => e = .returned (.tuple #[.agg (A51 (findS l p).1), .bool (findS l p).2]) ∧ Below w.heap.size w w' := by
  have HR := Aside0.mk hC
  have hu51 := Tryd.underlying51
  clear hC
  go_enter Tryd.func38, Tryd.ntmps38
  go_wp2_with fail
  have hb0 : Bel w.heap.size w (w.alloc (.cells (A51 z51) 51)) := inferInstance
  go_loopw [6] (fun i wr => ∃ j : Nat, j ≤ l.length ∧ i = .int .i64 (j : Int) ∧ Aside0 (findS (l.drop j) p = findS l p) ∧ Aside0 (Below w.heap.size w wr) ∧ Aside0 (Go.Proofs.YtjllbkeobibnkaaDoorK.Holds wr w.heap.size (.cells (A51 z51) 51))) (fun i _ => l.length - (intOf i).toNat)
  case atStart => exact ⟨0, Nat.zero_le _, rfl, ⟨rfl⟩, ⟨bel _ _⟩, ⟨inferInstance⟩⟩
  case round =>
    obtain ⟨j, hj, rfl, HI, HB, HH⟩ := hrel
    have hh := HH.out
    have bw : Bel w.heap.size w wr := ⟨fun _ => HB.out⟩
    by_cases hlt : j < l.length
    · obtain ⟨ad, e, x0⟩ := C58_at HR.out j hlt
      subst e
      have hI := HI.out
      rw [List.drop_eq_getElem_cons hlt] at hI
      simp only [findS] at hI
      generalize l[j] = x at x0 hI
      replace x0 := At_below x0 HB.out
      have X0 := Aside0.mk (At58 x0).2.2.2.1
      have x1 := (At58 x0).1
      rw [add_zero_] at x1
      have hx2 : w.heap.size < wr.heap.size := held_lt
      clear HI x0
      cases hx : eqP p x with
      | true =>
        rw [if_pos hx] at hI
        have HI := Aside0.mk hI
        have hx : (x.f0.toList == p.toList) = true := hx
        clear hI
        go_wp2_with (first
          | (refine seg_load rfl 51 (.tmp 23) rfl X0.out (A51 x.f1) rfl rfl hu51 rfl (by rw [L51_len]; exact info51s) ?_)
          | (refine box_store rfl rfl 51 (.tmp 4) (.tmp 24) rfl held (A51 x.f1) rfl rfl (by rw [A51_size]; exact info51s) (by rw [A51_size, A51_size]) (A51_all _) ?_
             intro wz hxz hgz
             have pz := prev_row hgz
             have HZ := Aside0.mk hxz
             clear hxz hgz))
        refine bodyPost_ret (results_row_tmp rfl _ _ (.bool true) HZ.out rfl rfl hu51 rfl (by rw [A51_size]; exact info51s)) rfl ?_
        exact ⟨by rw [← HI.out], bel _ _⟩
      | false =>
        rw [if_neg (by rw [hx]; decide)] at hI
        have HI := Aside0.mk hI
        have hx : (x.f0.toList == p.toList) = false := hx
        clear hI
        go_wp2_with fail
        go_roundw
        case rel => exact ⟨j + 1, by omega, by go_num, HI, HB, HH⟩
        case measure => simp [intOf]; omega
    · have hI := HI.out
      rw [List.drop_of_length_le (by omega)] at hI
      have HI' := Aside0.mk hI
      clear hI HI
      go_wp2_with (
        (refine box_store rfl rfl 51 (.tmp 4) (.tmp 25) rfl held (A51 z51) rfl rfl (by rw [A51_size]; exact info51s) (by rfl) (A51_all z51) ?_
         intro wz hxz hgz
         have pz := prev_row hgz
         have HZ := Aside0.mk hxz
         clear hxz hgz))
      refine bodyPost_ret (results_row_tmp rfl _ _ (.bool false) HZ.out rfl rfl hu51 rfl (by rw [A51_size]; exact info51s)) rfl ?_
      exact ⟨by rw [← HI'.out]; rfl, bel _ _⟩
end Go.Proofs.YtjllbkeobibnkaaDoor.Q

namespace Go.Proofs.YtjllbkeobibnkaaDoor.Q
open Go Go.Proofs Go.Shelf Go.RowKit Go.Proofs.YtjllbkeobibnkaaDoorK Go.Proofs.YtjllbkeobibnkaaDoorW.PrintWords Go.Proofs.YtjllbkeobibnkaaDoorW.PrintLast Go.Proofs.YtjllbkeobibnkaaDoorW.PrintMore
set_option linter.unusedSimpArgs false
set_option linter.unusedVariables false
/-! ### merge.at -/
/-- What all sides have of a path. -/
def atS (s : S24) (p : ByteArray) : S65 :=
  { a := (findS s.f0 p).1, l := (findS s.f1 p).1, r := (findS s.f2 p).1, inA := (findS s.f0 p).2, inL := (findS s.f1 p).2, inR := (findS s.f2 p).2
    here := ((findS s.f1 p).2 != (findS s.f0 p).2) || ((findS s.f1 p).2 && !alikeS (findS s.f0 p).1 (findS s.f1 p).1)
    there := ((findS s.f2 p).2 != (findS s.f0 p).2) || ((findS s.f2 p).2 && ((findS s.f0 p).1.f0 != (findS s.f2 p).1.f0)) }
/-- Sides that come in. -/
structure SideIn (w : World) (s : S24) (v : Array Value) : Prop where
  out : ∃ A c B d C e, v = #[.slice A s.f0.length c, .slice B s.f1.length d, .slice C s.f2.length e] ∧ s.f0.length ≤ c ∧ s.f1.length ≤ d ∧ s.f2.length ≤ e ∧ k58.C w A s.f0.length s.f0 ∧ k58.C w B s.f1.length s.f1 ∧ k58.C w C s.f2.length s.f2
theorem SideIn.below {w w' : World} {s : S24} {v : Array Value} (h : SideIn w s v) (hb : Below w.heap.size w w') : SideIn w' s v := by
  obtain ⟨A, c, B, d, C, e, h1, h2, h3, h4, h5, h6, h7⟩ := h.out
  exact ⟨⟨A, c, B, d, C, e, h1, h2, h3, h4, Kd.C_below h5 hb, Kd.C_below h6 hb, Kd.C_below h7 hb⟩⟩
def shortS (s : S24) : Bool := decide (s.f0.length ≤ 1048576) && (decide (s.f1.length ≤ 1048576) && decide (s.f2.length ≤ 1048576))
theorem shortS_open {s : S24} (h : shortS s = true) : s.f0.length ≤ 1048576 ∧ s.f1.length ≤ 1048576 ∧ s.f2.length ≤ 1048576 := by
  unfold shortS at h
  simpa using h
attribute [local go_sem] A51_size A51_0 A51_1 A51_g0 A51_g1 A58_size A58_0 A58_1 A58_2 A58_g0 A58_g1 A58_g2 cell_held frozen_held
attribute [local go_sem] A65_size A65_0 A65_34 A65_68 A65_102 A65_103 A65_104 A65_105 A65_106 A65_g0 A65_g34 A65_g68 A65_g102 A65_g103 A65_g104 A65_g105 A65_g106 set_inA set_inL set_inR set_here set_there
attribute [local go_sem] zero51 zero58 zero65
attribute [local go_sem ↓ high] lvx_of
attribute [local go_sem] lv_sc lv24 lv33
attribute [local go_sem ↓ high] lv51 lv51s lv58 lv58a lv65 lv65a lv65l lv65r sc51 sc58 sc65 sc65a sc65l sc65r sc58a
set_option maxRecDepth 100000 in
set_option maxHeartbeats 4000000 in
theorem at_any (w : World) (s : S24) (v : Array Value) (p : ByteArray) (hs : SideIn w s v) (hl : shortS s = true) :
    Calls Tryd.prog 26 #[.agg v, .string p] w fun e w' => e = .returned (.agg (A65 (atS s p))) ∧ Below w.heap.size w w' := by
  obtain ⟨A, c, B, d, C, e, rfl, l1, l2, l3, h1, h2, h3⟩ := hs.out
  obtain ⟨m1, m2, m3⟩ := shortS_open hl
  have HF0 := Aside0.mk (fun W (hb : Below w.heap.size w W) => Find_any W A c s.f0 p (Kd.C_below h1 hb) m1)
  have HF1 := Aside0.mk (fun W (hb : Below w.heap.size w W) => Find_any W B d s.f1 p (Kd.C_below h2 hb) m2)
  have HF2 := Aside0.mk (fun W (hb : Below w.heap.size w W) => Find_any W C e s.f2 p (Kd.C_below h3 hb) m3)
  unfold atS
  clear hs hl l1 l2 l3 h1 h2 h3 m1 m2 m3
  generalize s.f0.length = n0 at HF0
  generalize s.f1.length = n1 at HF1
  generalize s.f2.length = n2 at HF2
  generalize findS s.f0 p = x at HF0
  generalize findS s.f1 p = y at HF1
  generalize findS s.f2 p = z at HF2
  obtain ⟨x, ia⟩ := x
  obtain ⟨y, il⟩ := y
  obtain ⟨z, ir⟩ := z
  dsimp only at HF0 HF1 HF2 ⊢
  go_enter Tryd.func26, Tryd.ntmps26
  go_wp2_with fail
  refine (HF0.out _ (bel _ _)).mono ?_
  rintro r1 w1 ⟨rfl, hb⟩
  have p1 := prev_call hb
  clear hb
  go_wp2_with fail
  refine (HF1.out _ (bel _ _)).mono ?_
  rintro r2 w2 ⟨rfl, hb⟩
  have p2 := prev_call hb
  clear hb
  go_wp2_with fail
  refine (HF2.out _ (bel _ _)).mono ?_
  rintro r3 w3 ⟨rfl, hb⟩
  have p3 := prev_call hb
  clear hb
  cases ia <;> cases il <;> cases ir <;> go_wp2_with fail
  any_goals (first
    | (refine (alike_any _ _ _).mono ?_
       rintro r4 w4 ⟨rfl, hb⟩
       have p4 := prev_call hb
       clear hb
       go_wp2_with fail)
    | skip)
  all_goals
    refine bodyPost_ret (results_cell_row rfl _ _ _ _ _ _ _ rfl held Tryd.underlying65 rfl (by rw [A65_size]; exact info65s)) rfl ?_
    exact ⟨by simp, bel _ _⟩
end Go.Proofs.YtjllbkeobibnkaaDoor.Q

namespace Go.Proofs.YtjllbkeobibnkaaDoorK
open Go Go.RowKit Go.Proofs.YtjllbkeobibnkaaDoorW.PrintWords
/-! 'copy(x[i:], s)' of a string that may be too long. -/
theorem run_copy_min {P : Program} (w : World) (dT sT ty elem : TypeId) (g o dLen dCap : Nat) (s : ByteArray) (cur : Array Value) (t : TypeId)
    (hu : P.underlying dT = some (.slice elem)) (hs : (P.info? elem).map (·.size) = some 1) (hg : w.heap[g]? = some (.cells cur t (0, 0))) (hfit : o + min s.size dLen ≤ cur.size) :
    (Builtin.copy_ #[dT, sT] ty #[.slice (some ⟨g, o, none⟩) dLen dCap, .string s]).run P w =
      .ok (goInt (min s.size dLen)) (w.setRow g (cur.toList.take o ++ Lib.byteCells (s.data.toList.take (min s.size dLen)) ++ cur.toList.drop (o + min s.size dLen)).toArray) := by
  have hlen : (Lib.byteCells (s.data.toList.take (min s.size dLen))).length = min s.size dLen := by
    rw [Lib.byteCells_length, List.length_take]
    have : s.data.toList.length = s.size := by simp
    omega
  have hst := run_storeCells_at P g o t (Lib.byteCells (s.data.toList.take (min s.size dLen))) 0 cur w hg (by rw [hlen]; simpa using hfit) (Lib.byteCells_one _)
  have htk : List.take (min s.size dLen) (List.map (fun b : UInt8 => Value.int IntKind.u8 (b.toNat : Int)) s.data.toList) = Lib.byteCells (s.data.toList.take (min s.size dLen)) := by
    rw [← List.map_take]
    rfl
  rw [hlen] at hst
  simp only [Nat.add_zero] at hst
  cases hq : P.info? elem with
  | none => simp [hq] at hs
  | some i =>
    have hm : Nat.min s.size dLen = min s.size dLen := rfl
    simp [Builtin.copy_, run_underlying hu, Builtin.lenOf, Builtin.firstCells, sizeOf, typeInfo, hq, hm]
    rw [htk, hst]
    simp [Result.andThen]
    try (congr 1; omega)
/-- A struct laid cell by cell into a new row is the struct. -/
theorem laid_list : ∀ (l : List Value) (k : Nat) (acc : Array Value), acc.size = k + l.length → (l.zipIdx k).foldl (fun cs x => cs.setIfInBounds x.2 x.1) acc = (acc.toList.take k ++ l).toArray
  | [], k, acc, h => by
    simp only [List.zipIdx_nil, List.foldl_nil, List.append_nil]
    rw [List.take_of_length_le (by simp at h ⊢; omega)]
  | v :: l, k, acc, h => by
    simp only [List.zipIdx_cons, List.foldl_cons]
    simp only [List.length_cons] at h
    rw [laid_list l (k + 1) _ (by simp; omega)]
    congr 1
    have hk : k < acc.toList.length := by simp; omega
    rw [Array.toList_setIfInBounds, List.take_succ_eq_append_getElem (by simpa using hk), List.take_set_of_le (Nat.le_refl k), List.getElem_set_self]
    simp
theorem laid_row (zs cs : Array Value) (n : Nat) (h : zs.size = n) (hn : cs.size = n) : Array.foldl (fun cs x => cs.setIfInBounds x.2 x.1) zs cs.zipIdx 0 n = cs := by
  have h1 := laid_list cs.toList 0 zs (by simp; omega)
  have h2 : cs.zipIdx.size = n := by simp [hn]
  have h3 := Array.foldl_toList (fun (cs : Array Value) (x : Value × Nat) => cs.setIfInBounds x.2 x.1) (init := zs) (xs := cs.zipIdx)
  rw [← h2]
  rw [← h3, Array.toList_zipIdx, h1]
  simp
section
variable {P : Program} {ops : Array Oper} {oi : Oper} {a : Act} {w : World} {Q : Exit → Act → World → Prop} {K : Act → World → Prop}
theorem copy_step {N : Option Tmp} (d x : Operand) (dT sT elem : TypeId) (hw : Region.wanted oi (yielded ops a.tmps) = true) (hN : oi.dst = N) (hop : oi.op = .call { callee := .builtin .copy, args := #[d, x], argTypes := #[dT, sT] })
    {g o dLen dCap : Nat} {s : ByteArray} {cur : Array Value} {t : TypeId} (hg : w.heap[g]? = some (.cells cur t (0, 0))) (hd : a.eval d = .slice (some ⟨g, o, none⟩) dLen dCap) (hx : a.eval x = .string s)
    (hu : P.underlying dT = some (.slice elem)) (hs : (P.info? elem).map (·.size) = some 1) (hfit : o + min s.size dLen ≤ cur.size)
    (h : ∀ w1, w1.heap[g]? = some (.cells (cur.toList.take o ++ Lib.byteCells (s.data.toList.take (min s.size dLen)) ++ cur.toList.drop (o + min s.size dLen)).toArray t (0, 0)) → w.grownBy w1 (some g) → K (a.put N (goInt (min s.size dLen))) w1) :
    if Region.wanted oi (yielded ops a.tmps) = true then Oper.wp P oi a w K Q else K (a.put N undef) w := by
  rw [if_pos hw]
  subst hN
  have hrun := run_copy_min (P := P) w dT sT oi.type elem g o dLen dCap s cur t hu hs hg hfit
  have hr : (execOp a.eval oi).run P w = .ok (.value (goInt (min s.size dLen))) (w.setRow g (cur.toList.take o ++ Lib.byteCells (s.data.toList.take (min s.size dLen)) ++ cur.toList.drop (o + min s.size dLen)).toArray) := by
    unfold execOp
    simp only [hop]
    simp [resolve, invoke, builtin, hd, hx, hrun, Result.andThen]
  unfold Oper.wp
  rw [hr]
  exact h _ (setRow_heap w g cur _ t (0, 0) hg) (grown_setRow w g _)
end
end Go.Proofs.YtjllbkeobibnkaaDoorK

namespace Go.Proofs.YtjllbkeobibnkaaDoor.Q
open Go Go.Proofs Go.Shelf Go.RowKit Go.Proofs.YtjllbkeobibnkaaDoorK Go.Proofs.YtjllbkeobibnkaaDoorW.PrintWords Go.Proofs.YtjllbkeobibnkaaDoorW.PrintLast Go.Proofs.YtjllbkeobibnkaaDoorW.PrintMore
set_option linter.unusedSimpArgs false
set_option linter.unusedVariables false
/-! ### Appends: of what is known of a path, of a text -/
theorem info58b : (Tryd.prog.info? 58).map (fun i => (i.zero, i.size, i.bytes)) = some (some (.agg (A58 z58)), 35, 64) := by kernel_rfl
theorem info9b : (Tryd.prog.info? 9).map (fun i => (i.zero, i.size, i.bytes)) = some (some (.string ⟨#[]⟩), 1, 16) := by kernel_rfl
theorem rowB {α : Type} {d : Kd α} {e base : Nat} {W W' : World} {v : Value} {xs : List α} (h : d.R e W base (fun _ => True) v xs) (hb : Below W.heap.size W W') : d.R e W' base (fun _ => True) v xs :=
  Kd.R_mono (Kd.R_step (Kd.R_bound h) (fun k hk hlt => hb.block k hlt)) (fun _ _ => trivial)
theorem laid58 {zs : Array Value} (c : S58) (h : zs.size = 35) : Array.foldl (fun (cs : Array Value) (x : Value × Nat) => cs.setIfInBounds x.2 x.1) zs (A58 c).zipIdx 0 35 = A58 c := laid_row _ _ 35 h (A58_size c)
theorem laid_off : ∀ (l : List Value) (k o : Nat) (acc : Array Value), o + k + l.length ≤ acc.size → ((l.zipIdx k).foldl (fun (cs : Array Value) (x : Value × Nat) => cs.setIfInBounds (o + x.2) x.1) acc).toList = acc.toList.take (o + k) ++ (l ++ acc.toList.drop (o + k + l.length))
  | [], k, o, acc, h => by
    simp only [List.zipIdx_nil, List.foldl_nil, List.nil_append, List.length_nil, Nat.add_zero, List.take_append_drop]
  | v :: l, k, o, acc, h => by
    simp only [List.length_cons] at h
    simp only [List.zipIdx_cons, List.foldl_cons]
    rw [laid_off l (k + 1) o _ (by rw [Array.size_setIfInBounds]; omega), Array.toList_setIfInBounds]
    have hk : o + k < acc.toList.length := by rw [Array.length_toList]; omega
    rw [show o + (k + 1) = o + k + 1 by omega, List.take_succ_eq_append_getElem (by rw [List.length_set]; exact hk), List.take_set_of_le (Nat.le_refl _), List.getElem_set_self, List.drop_set_of_lt (by omega), List.length_cons, show o + k + 1 + l.length = o + k + (l.length + 1) by omega, List.append_assoc]
    rfl
theorem laid58a (p : ByteArray) (a a0 : S51) : Array.foldl (fun (cs : Array Value) (x : Value × Nat) => cs.setIfInBounds (1 + x.2) x.1) (A58 ⟨p, a0⟩) (A51 a).zipIdx 0 34 = A58 ⟨p, a⟩ := by
  have h2 : (A51 a).zipIdx.size = 34 := by simp [A51_size]
  rw [← h2, ← Array.foldl_toList, Array.toList_zipIdx]
  apply Array.toList_inj.1
  rw [laid_off _ 0 1 _ (by rw [A58_size, Array.length_toList, A51_size]; decide), A58_list, A58_list, A51_list, L51_len, List.drop_of_length_le (by rw [L58_len]; decide), List.append_nil]
  rfl
section
variable {ops : Array Oper} {rest : List Oper} {o : Oper} {a : Act} {Q : Exit → Act → World → Prop}
theorem app58 {w0 W : World} (base : Nat) (hgd : o.guard = none) (s x : Operand) (ho : o.op = .call { callee := .builtin .append, args := #[s, x], argTypes := #[22, 22] })
    (v : Value) (xs : List S58) (p : S58) (hs : a.eval s = v) (hx : a.eval x = .slice (some ⟨W.heap.size, 0, none⟩) 1 1)
    (HO : k58.R 58 W base (fun _ => True) v xs) (HB : Below base w0 W) (hbase : base ≤ W.heap.size) (hl : xs.length ≤ 2097152)
    (h : ∀ v1 w1, k58.R 58 w1 base (fun _ => True) v1 (xs ++ [p]) → Below base w0 w1 → W.grownBy w1 v.ownBlock → (v1.ownBlock = v.ownBlock ∨ ∃ b, v1.ownBlock = some b ∧ W.heap.size ≤ b) → wpList Tryd.prog ops Q rest (a.put o.dst v1) w1) :
    wpList Tryd.prog ops Q (o :: rest) a (W.alloc (.cells (A58 p) 58)) :=
  Kd.R_append k58 (w0 := w0) base hgd s x 22 58 (.agg (A58 z58)) 64 ho Tryd.underlying22 info58b (A58_size z58) (by decide) (by decide) v xs p (L58 p) (fun _ => True) (fun _ => False) hs hx rfl (fun _ hk => hk.elim) (fun _ _ => trivial) HO HB hbase (by omega) h
theorem app41 {w0 W : World} (base : Nat) (hgd : o.guard = none) (s x : Operand) (ho : o.op = .call { callee := .builtin .append, args := #[s, x], argTypes := #[41, 41] })
    (v : Value) (xs : List ByteArray) (p : ByteArray) (hs : a.eval s = v) (hx : a.eval x = .slice (some ⟨W.heap.size, 0, none⟩) 1 1)
    (HO : Kd.string.R 9 W base (fun _ => True) v xs) (HB : Below base w0 W) (hbase : base ≤ W.heap.size) (hl : xs.length ≤ 8388608)
    (h : ∀ v1 w1, Kd.string.R 9 w1 base (fun _ => True) v1 (xs ++ [p]) → Below base w0 w1 → W.grownBy w1 v.ownBlock → (v1.ownBlock = v.ownBlock ∨ ∃ b, v1.ownBlock = some b ∧ W.heap.size ≤ b) → wpList Tryd.prog ops Q rest (a.put o.dst v1) w1) :
    wpList Tryd.prog ops Q (o :: rest) a (W.alloc (.cells #[.string p] 9)) :=
  Kd.R_append Kd.string (w0 := w0) base hgd s x 41 9 (.string ⟨#[]⟩) 16 ho Tryd.underlying41 info9b rfl (by decide) (by decide) v xs p [.string p] (fun _ => True) (fun _ => False) hs hx rfl (fun _ hk => hk.elim) (fun _ _ => trivial) HO HB hbase (by omega) h
theorem put58 {W : World} (base : Nat) (hgd : o.guard = none) (s x : Operand) (ho : o.op = .call { callee := .builtin .append, args := #[s, x], argTypes := #[22, 22] })
    (v : Value) (xs : List S58) (p : S58) (hs : a.eval s = v) (hx : a.eval x = .slice (some ⟨W.heap.size, 0, none⟩) 1 1)
    (HO : k58.R 58 W base (fun _ => True) v xs) (hbase : base ≤ W.heap.size) (hl : xs.length ≤ 2097152)
    (h : ∀ v1 w1, k58.R 58 w1 base (fun _ => True) v1 (xs ++ [p]) → W.grownBy w1 v.ownBlock → (v1.ownBlock = v.ownBlock ∨ ∃ b, v1.ownBlock = some b ∧ W.heap.size ≤ b) → wpList Tryd.prog ops Q rest (a.put o.dst v1) w1) :
    wpList Tryd.prog ops Q (o :: rest) a (W.alloc (.cells (A58 p) 58)) :=
  app58 base hgd s x ho v xs p hs hx HO (Below.refl _ _) hbase hl (fun v1 w1 h1 _ h3 h4 => h v1 w1 h1 h3 h4)
theorem put41 {W : World} (base : Nat) (hgd : o.guard = none) (s x : Operand) (ho : o.op = .call { callee := .builtin .append, args := #[s, x], argTypes := #[41, 41] })
    (v : Value) (xs : List ByteArray) (p : ByteArray) (hs : a.eval s = v) (hx : a.eval x = .slice (some ⟨W.heap.size, 0, none⟩) 1 1)
    (HO : Kd.string.R 9 W base (fun _ => True) v xs) (hbase : base ≤ W.heap.size) (hl : xs.length ≤ 8388608)
    (h : ∀ v1 w1, Kd.string.R 9 w1 base (fun _ => True) v1 (xs ++ [p]) → W.grownBy w1 v.ownBlock → (v1.ownBlock = v.ownBlock ∨ ∃ b, v1.ownBlock = some b ∧ W.heap.size ≤ b) → wpList Tryd.prog ops Q rest (a.put o.dst v1) w1) :
    wpList Tryd.prog ops Q (o :: rest) a (W.alloc (.cells #[.string p] 9)) :=
  app41 base hgd s x ho v xs p hs hx HO (Below.refl _ _) hbase hl (fun v1 w1 h1 _ h3 h4 => h v1 w1 h1 h3 h4)
end
end Go.Proofs.YtjllbkeobibnkaaDoor.Q

namespace Go.Proofs.YtjllbkeobibnkaaDoor.Q
open Go Go.Proofs Go.Shelf Go.RowKit Go.Proofs.YtjllbkeobibnkaaDoorK Go.Proofs.YtjllbkeobibnkaaDoorW.PrintWords Go.Proofs.YtjllbkeobibnkaaDoorW.PrintLast Go.Proofs.YtjllbkeobibnkaaDoorW.PrintMore
set_option linter.unusedSimpArgs false
set_option linter.unusedVariables false
/-! ### A step; what must be done of a path -/
/-- api.Step: a kind, a version, a path, another one. -/
structure S33 where
  f0 : Int
  f1 : Int
  f2 : ByteArray
  f3 : ByteArray
def eB : ByteArray := ⟨#[]⟩
def z33 : S33 := ⟨0, 0, eB, eB⟩
def A33 (x : S33) : Array Value := #[.int .i64 x.f0, .int .i64 x.f1, .string x.f2, .string x.f3]
def stepS (x : S65) (p : ByteArray) : S33 :=
  match x.here, x.there, x.inL, x.inR with
  | false, false, true, _ => if (x.l.f0 != x.a.f0) = true then ⟨5, x.a.f0, p, eB⟩ else z33
  | false, false, false, _ => z33
  | true, false, true, _ => ⟨1, x.a.f0, p, eB⟩
  | true, false, false, _ => ⟨2, x.a.f0, p, eB⟩
  | false, true, _, true => ⟨3, x.r.f0, p, eB⟩
  | false, true, _, false => ⟨4, 0, p, eB⟩
  | true, true, false, true => ⟨3, x.r.f0, p, eB⟩
  | true, true, false, false => ⟨6, 0, p, eB⟩
  | true, true, true, false => ⟨1, 0, p, eB⟩
  | true, true, true, true => if alikeS x.l x.r = true then ⟨5, x.r.f0, p, eB⟩ else ⟨7, x.r.f0, p, eB⟩
theorem info33 : (Tryd.prog.info? 33).map (·.size) = some 4 := by kernel_rfl
attribute [local go_sem] A51_size A51_0 A51_1 A51_g0 A51_g1 A58_size A58_0 A58_1 A58_2 A58_g0 A58_g1 A58_g2 cell_held frozen_held
attribute [local go_sem] A65_size A65_0 A65_34 A65_68 A65_102 A65_103 A65_104 A65_105 A65_106 A65_g0 A65_g34 A65_g68 A65_g102 A65_g103 A65_g104 A65_g105 A65_g106 set_inA set_inL set_inR set_here set_there
attribute [local go_sem] zero51 zero58 zero65
attribute [local go_sem ↓ high] lvx_of
attribute [local go_sem] lv_sc lv24 lv33
attribute [local go_sem ↓ high] lv51 lv51s lv58 lv58a lv65 lv65a lv65l lv65r sc51 sc58 sc65 sc65a sc65l sc65r sc58a
set_option maxRecDepth 100000 in
set_option maxHeartbeats 4000000 in
theorem step_any (w : World) (x : S65) (p : ByteArray) : Calls Tryd.prog 44 #[.agg (A65 x), .string p] w fun e w' => e = .returned (.agg (A33 (stepS x p))) ∧ Below w.heap.size w w' := by
  obtain ⟨a, l, r, ia, il, ir, he, th⟩ := x
  have HAL := Aside0.mk (fun W => alike_any W l r)
  cases he <;> cases th
  · cases il
    · simp only [stepS]
      (all_goals
        go_enter Tryd.func44, Tryd.ntmps44
        go_wp2_with fail
        (try (refine (HAL.out _).mono ?_; rintro r1 w1 ⟨rfl, hb⟩; have p1 := prev_call hb; clear hb; go_wp2_with fail))
        refine bodyPost_ret (results_cell_row rfl _ _ _ _ _ _ _ rfl held Tryd.underlying33 rfl (by exact info33)) rfl ?_
        exact ⟨rfl, bel _ _⟩)
    · simp only [stepS]
      cases hv : (l.f0 != a.f0)
      · rw [if_neg (by decide)]
        (all_goals
          go_enter Tryd.func44, Tryd.ntmps44
          go_wp2_with fail
          (try (refine (HAL.out _).mono ?_; rintro r1 w1 ⟨rfl, hb⟩; have p1 := prev_call hb; clear hb; go_wp2_with fail))
          refine bodyPost_ret (results_cell_row rfl _ _ _ _ _ _ _ rfl held Tryd.underlying33 rfl (by exact info33)) rfl ?_
          exact ⟨rfl, bel _ _⟩)
      · rw [if_pos rfl]
        (all_goals
          go_enter Tryd.func44, Tryd.ntmps44
          go_wp2_with fail
          (try (refine (HAL.out _).mono ?_; rintro r1 w1 ⟨rfl, hb⟩; have p1 := prev_call hb; clear hb; go_wp2_with fail))
          refine bodyPost_ret (results_cell_row rfl _ _ _ _ _ _ _ rfl held Tryd.underlying33 rfl (by exact info33)) rfl ?_
          exact ⟨rfl, bel _ _⟩)
  · cases ir
    · simp only [stepS]
      (all_goals
        go_enter Tryd.func44, Tryd.ntmps44
        go_wp2_with fail
        (try (refine (HAL.out _).mono ?_; rintro r1 w1 ⟨rfl, hb⟩; have p1 := prev_call hb; clear hb; go_wp2_with fail))
        refine bodyPost_ret (results_cell_row rfl _ _ _ _ _ _ _ rfl held Tryd.underlying33 rfl (by exact info33)) rfl ?_
        exact ⟨rfl, bel _ _⟩)
    · simp only [stepS]
      (all_goals
        go_enter Tryd.func44, Tryd.ntmps44
        go_wp2_with fail
        (try (refine (HAL.out _).mono ?_; rintro r1 w1 ⟨rfl, hb⟩; have p1 := prev_call hb; clear hb; go_wp2_with fail))
        refine bodyPost_ret (results_cell_row rfl _ _ _ _ _ _ _ rfl held Tryd.underlying33 rfl (by exact info33)) rfl ?_
        exact ⟨rfl, bel _ _⟩)
  · cases il
    · simp only [stepS]
      (all_goals
        go_enter Tryd.func44, Tryd.ntmps44
        go_wp2_with fail
        (try (refine (HAL.out _).mono ?_; rintro r1 w1 ⟨rfl, hb⟩; have p1 := prev_call hb; clear hb; go_wp2_with fail))
        refine bodyPost_ret (results_cell_row rfl _ _ _ _ _ _ _ rfl held Tryd.underlying33 rfl (by exact info33)) rfl ?_
        exact ⟨rfl, bel _ _⟩)
    · simp only [stepS]
      (all_goals
        go_enter Tryd.func44, Tryd.ntmps44
        go_wp2_with fail
        (try (refine (HAL.out _).mono ?_; rintro r1 w1 ⟨rfl, hb⟩; have p1 := prev_call hb; clear hb; go_wp2_with fail))
        refine bodyPost_ret (results_cell_row rfl _ _ _ _ _ _ _ rfl held Tryd.underlying33 rfl (by exact info33)) rfl ?_
        exact ⟨rfl, bel _ _⟩)
  · cases il <;> cases ir
    · simp only [stepS]
      (all_goals
        go_enter Tryd.func44, Tryd.ntmps44
        go_wp2_with fail
        (try (refine (HAL.out _).mono ?_; rintro r1 w1 ⟨rfl, hb⟩; have p1 := prev_call hb; clear hb; go_wp2_with fail))
        refine bodyPost_ret (results_cell_row rfl _ _ _ _ _ _ _ rfl held Tryd.underlying33 rfl (by exact info33)) rfl ?_
        exact ⟨rfl, bel _ _⟩)
    · simp only [stepS]
      (all_goals
        go_enter Tryd.func44, Tryd.ntmps44
        go_wp2_with fail
        (try (refine (HAL.out _).mono ?_; rintro r1 w1 ⟨rfl, hb⟩; have p1 := prev_call hb; clear hb; go_wp2_with fail))
        refine bodyPost_ret (results_cell_row rfl _ _ _ _ _ _ _ rfl held Tryd.underlying33 rfl (by exact info33)) rfl ?_
        exact ⟨rfl, bel _ _⟩)
    · simp only [stepS]
      (all_goals
        go_enter Tryd.func44, Tryd.ntmps44
        go_wp2_with fail
        (try (refine (HAL.out _).mono ?_; rintro r1 w1 ⟨rfl, hb⟩; have p1 := prev_call hb; clear hb; go_wp2_with fail))
        refine bodyPost_ret (results_cell_row rfl _ _ _ _ _ _ _ rfl held Tryd.underlying33 rfl (by exact info33)) rfl ?_
        exact ⟨rfl, bel _ _⟩)
    · simp only [stepS]
      generalize alikeS l r = q at HAL ⊢
      cases q
      · rw [if_neg (by decide)]
        (all_goals
          go_enter Tryd.func44, Tryd.ntmps44
          go_wp2_with fail
          (try (refine (HAL.out _).mono ?_; rintro r1 w1 ⟨rfl, hb⟩; have p1 := prev_call hb; clear hb; go_wp2_with fail))
          refine bodyPost_ret (results_cell_row rfl _ _ _ _ _ _ _ rfl held Tryd.underlying33 rfl (by exact info33)) rfl ?_
          exact ⟨rfl, bel _ _⟩)
      · rw [if_pos rfl]
        (all_goals
          go_enter Tryd.func44, Tryd.ntmps44
          go_wp2_with fail
          (try (refine (HAL.out _).mono ?_; rintro r1 w1 ⟨rfl, hb⟩; have p1 := prev_call hb; clear hb; go_wp2_with fail))
          refine bodyPost_ret (results_cell_row rfl _ _ _ _ _ _ _ rfl held Tryd.underlying33 rfl (by exact info33)) rfl ?_
          exact ⟨rfl, bel _ _⟩)
end Go.Proofs.YtjllbkeobibnkaaDoor.Q

namespace Go.Proofs.YtjllbkeobibnkaaDoor.Q
open Go Go.Proofs Go.Shelf Go.RowKit Go.Proofs.YtjllbkeobibnkaaDoorK Go.Proofs.YtjllbkeobibnkaaDoorW.PrintWords Go.Proofs.YtjllbkeobibnkaaDoorW.PrintLast Go.Proofs.YtjllbkeobibnkaaDoorW.PrintMore
set_option linter.unusedSimpArgs false
set_option linter.unusedVariables false
/-! ### Appends: of steps -/
def L33 (x : S33) : List Value := [.int .i64 x.f0, .int .i64 x.f1, .string x.f2, .string x.f3]
theorem L33_one (x : S33) : ∀ v ∈ L33 x, v.oneCell' = true := by
  intro v hv
  simp only [L33, List.mem_cons, List.not_mem_nil, or_false] at hv
  rcases hv with rfl | rfl | rfl | rfl <;> rfl
def k33 : Kd S33 where
  sz := 4
  E := []
  K := fun _ x cs => cs = L33 x
  M := fun _ _ _ x cs => cs = L33 x
  K_len := fun h => by rw [h]; rfl
  K_one := fun h u hu => by rw [h] at hu; exact L33_one _ u hu
  K_below := fun _ h => h
  K_of_M := fun h => h
  M_mono := fun _ h => h
  M_bound := fun h => h
  M_move := fun _ h => h
  M_lower := fun _ h => h
theorem C33_at {w : World} {A : Option Addr} {l : List S33} (h : k33.C w A l.length l) (j : Nat) (hj : j < l.length) : ∃ ad, A = some ad ∧ At w (ad.add (j * 4)) (L33 l[j]) := by
  obtain ⟨ad, e, hc⟩ := h.2.2 (by omega)
  obtain ⟨c, h1, h2, h3⟩ := hc j l[j] (List.getElem?_eq_getElem hj)
  refine ⟨ad, e, fun i u hi => ?_⟩
  rw [Go.Deep.add_add]
  exact h3 i u (by rw [show c = L33 l[j] from h2]; exact hi)
theorem at33 {w : World} {ad : Addr} {x : S33} (h : At w ad (L33 x)) : w.cell? ad = some (.int .i64 x.f0) ∧ w.cell? ⟨ad.block, ad.off + 1, none⟩ = some (.int .i64 x.f1) ∧ w.cell? ⟨ad.block, ad.off + 2, none⟩ = some (.string x.f2) ∧ w.cell? ⟨ad.block, ad.off + 3, none⟩ = some (.string x.f3) := by
  have h0 := h 0 _ rfl
  have h1 := h 1 _ rfl
  have h2 := h 2 _ rfl
  have h3 := h 3 _ rfl
  rw [add_zero_] at h0
  rw [Addr.add_succ' ad 0] at h1
  rw [Addr.add_succ' ad 1] at h2
  rw [Addr.add_succ' ad 2] at h3
  exact ⟨h0, h1, h2, h3⟩
theorem info33b : (Tryd.prog.info? 33).map (fun i => (i.zero, i.size, i.bytes)) = some (some (.agg (A33 z33)), 4, 48) := by kernel_rfl
section
variable {ops : Array Oper} {rest : List Oper} {o : Oper} {a : Act} {Q : Exit → Act → World → Prop}
theorem app33 {w0 W : World} (base : Nat) (hgd : o.guard = none) (s x : Operand) (ho : o.op = .call { callee := .builtin .append, args := #[s, x], argTypes := #[43, 43] })
    (v : Value) (xs : List S33) (p : S33) (hs : a.eval s = v) (hx : a.eval x = .slice (some ⟨W.heap.size, 0, none⟩) 1 1)
    (HO : k33.R 33 W base (fun _ => True) v xs) (HB : Below base w0 W) (hbase : base ≤ W.heap.size) (hl : xs.length ≤ 2097152)
    (h : ∀ v1 w1, k33.R 33 w1 base (fun _ => True) v1 (xs ++ [p]) → Below base w0 w1 → W.grownBy w1 v.ownBlock → (v1.ownBlock = v.ownBlock ∨ ∃ b, v1.ownBlock = some b ∧ W.heap.size ≤ b) → wpList Tryd.prog ops Q rest (a.put o.dst v1) w1) :
    wpList Tryd.prog ops Q (o :: rest) a (W.alloc (.cells #[.int .i64 p.f0, .int .i64 p.f1, .string p.f2, .string p.f3] 33)) :=
  Kd.R_append k33 (w0 := w0) base hgd s x 43 33 (.agg (A33 z33)) 48 ho Tryd.underlying43 info33b rfl (by decide) (by decide) v xs p (L33 p) (fun _ => True) (fun _ => False) hs hx rfl (fun _ hk => hk.elim) (fun _ _ => trivial) HO HB hbase (by omega) h
theorem two33 {W : World} (p q : S33) : k33.C (W.alloc (.cells #[.int .i64 p.f0, .int .i64 p.f1, .string p.f2, .string p.f3, .int .i64 q.f0, .int .i64 q.f1, .string q.f2, .string q.f3] 33)) (some ⟨W.heap.size, 0, none⟩) 2 [p, q] := by
  refine ⟨rfl, by decide, fun _ => ⟨_, rfl, fun j x hj => ?_⟩⟩
  have hb := blk_new W (.cells #[.int .i64 p.f0, .int .i64 p.f1, .string p.f2, .string p.f3, .int .i64 q.f0, .int .i64 q.f1, .string q.f2, .string q.f3] 33)
  have hj2 : j = 0 ∨ j = 1 := by
    have := (List.getElem?_eq_some_iff.1 hj).1
    simp at this
    omega
  rcases hj2 with rfl | rfl
  · obtain rfl : p = x := by simpa using hj
    refine ⟨L33 p, rfl, rfl, fun i u hi => ?_⟩
    have hi4 := (List.getElem?_eq_some_iff.1 hi).1
    rw [Addr.add_lit]
    rw [blk_cell hb]
    rcases (show i = 0 ∨ i = 1 ∨ i = 2 ∨ i = 3 by simp [L33] at hi4; omega) with rfl | rfl | rfl | rfl <;> simpa [L33] using hi
  · obtain rfl : q = x := by simpa using hj
    refine ⟨L33 q, rfl, rfl, fun i u hi => ?_⟩
    have hi4 := (List.getElem?_eq_some_iff.1 hi).1
    rw [Addr.add_lit]
    rw [blk_cell hb]
    rcases (show i = 0 ∨ i = 1 ∨ i = 2 ∨ i = 3 by simp [L33] at hi4; omega) with rfl | rfl | rfl | rfl <;> simpa [L33, k33] using hi
theorem app33two {w0 W : World} (base : Nat) (hgd : o.guard = none) (s x : Operand) (ho : o.op = .call { callee := .builtin .append, args := #[s, x], argTypes := #[43, 43] })
    (v : Value) (xs : List S33) (p q : S33) (hs : a.eval s = v) (hx : a.eval x = .slice (some ⟨W.heap.size, 0, none⟩) 2 2)
    (HO : k33.R 33 W base (fun _ => True) v xs) (HB : Below base w0 W) (hbase : base ≤ W.heap.size) (hl : xs.length ≤ 2097152)
    (h : ∀ v1 w1, k33.R 33 w1 base (fun _ => True) v1 (xs ++ [p, q]) → Below base w0 w1 → (W.alloc (.cells #[.int .i64 p.f0, .int .i64 p.f1, .string p.f2, .string p.f3, .int .i64 q.f0, .int .i64 q.f1, .string q.f2, .string q.f3] 33)).grownBy w1 v.ownBlock → (v1.ownBlock = v.ownBlock ∨ ∃ b, v1.ownBlock = some b ∧ W.heap.size ≤ b) → wpList Tryd.prog ops Q rest (a.put o.dst v1) w1) :
    wpList Tryd.prog ops Q (o :: rest) a (W.alloc (.cells #[.int .i64 p.f0, .int .i64 p.f1, .string p.f2, .string p.f3, .int .i64 q.f0, .int .i64 q.f1, .string q.f2, .string q.f3] 33)) := by
  refine Kd.R_append_rows k33 (w0 := w0) base hgd s x 43 33 (.agg (A33 z33)) 48 ho Tryd.underlying43 info33b rfl (by decide) (by decide) v xs [p, q] (some ⟨W.heap.size, 0, none⟩) 2 2 (fun _ => True) (fun _ => False) hs hx (Kd.R_alloc HO _) (two33 p q) (fun _ _ h => h) (fun _ hk => hk.elim) (fun _ _ => trivial) (HB.alloc hbase _) (by rw [World.size_alloc]; omega) (by omega) ?_
  intro v1 w1 h1 h2 h3 h4
  refine h v1 w1 h1 h2 h3 (h4.imp id (fun ⟨b, e, hb⟩ => ⟨b, e, ?_⟩))
  rw [World.size_alloc] at hb
  omega
theorem put33 {W : World} (base : Nat) (hgd : o.guard = none) (s x : Operand) (ho : o.op = .call { callee := .builtin .append, args := #[s, x], argTypes := #[43, 43] })
    (v : Value) (xs : List S33) (p : S33) (hs : a.eval s = v) (hx : a.eval x = .slice (some ⟨W.heap.size, 0, none⟩) 1 1)
    (HO : k33.R 33 W base (fun _ => True) v xs) (hbase : base ≤ W.heap.size) (hl : xs.length ≤ 2097152)
    (h : ∀ v1 w1, k33.R 33 w1 base (fun _ => True) v1 (xs ++ [p]) → W.grownBy w1 v.ownBlock → (v1.ownBlock = v.ownBlock ∨ ∃ b, v1.ownBlock = some b ∧ W.heap.size ≤ b) → wpList Tryd.prog ops Q rest (a.put o.dst v1) w1) :
    wpList Tryd.prog ops Q (o :: rest) a (W.alloc (.cells #[.int .i64 p.f0, .int .i64 p.f1, .string p.f2, .string p.f3] 33)) :=
  app33 base hgd s x ho v xs p hs hx HO (Below.refl _ _) hbase hl (fun v1 w1 h1 _ h3 h4 => h v1 w1 h1 h3 h4)
theorem put33two {W : World} (base : Nat) (hgd : o.guard = none) (s x : Operand) (ho : o.op = .call { callee := .builtin .append, args := #[s, x], argTypes := #[43, 43] })
    (v : Value) (xs : List S33) (p q : S33) (hs : a.eval s = v) (hx : a.eval x = .slice (some ⟨W.heap.size, 0, none⟩) 2 2)
    (HO : k33.R 33 W base (fun _ => True) v xs) (hbase : base ≤ W.heap.size) (hl : xs.length ≤ 2097152)
    (h : ∀ v1 w1, k33.R 33 w1 base (fun _ => True) v1 (xs ++ [p, q]) → (W.alloc (.cells #[.int .i64 p.f0, .int .i64 p.f1, .string p.f2, .string p.f3, .int .i64 q.f0, .int .i64 q.f1, .string q.f2, .string q.f3] 33)).grownBy w1 v.ownBlock → (v1.ownBlock = v.ownBlock ∨ ∃ b, v1.ownBlock = some b ∧ W.heap.size ≤ b) → wpList Tryd.prog ops Q rest (a.put o.dst v1) w1) :
    wpList Tryd.prog ops Q (o :: rest) a (W.alloc (.cells #[.int .i64 p.f0, .int .i64 p.f1, .string p.f2, .string p.f3, .int .i64 q.f0, .int .i64 q.f1, .string q.f2, .string q.f3] 33)) :=
  app33two base hgd s x ho v xs p q hs hx HO (Below.refl _ _) hbase hl (fun v1 w1 h1 _ h3 h4 => h v1 w1 h1 h3 h4)
end
end Go.Proofs.YtjllbkeobibnkaaDoor.Q

namespace Go.Proofs.YtjllbkeobibnkaaDoor.Q
open Go Go.Proofs Go.RowKit Go.Proofs.YtjllbkeobibnkaaDoorK Go.Proofs.YtjllbkeobibnkaaDoorW.PrintWords Go.Proofs.YtjllbkeobibnkaaDoorW.PrintLast Go.Proofs.YtjllbkeobibnkaaDoorW.PrintMore
set_option linter.unusedVariables false
/-! ### What comes in: sides, steps -/
theorem opens_weak {P : Program} {t : TypeId} {α : Type} {d d' : Kd α} {good : α → Prop} (h : Opens P t d good) (hK : ∀ w x cs, d.K w x cs → d'.K w x cs) : Opens P t d' (fun _ => True) := by
  intro H enc w base spare held fuel cs x hx
  obtain ⟨a, ha, _⟩ := h H enc w base spare held fuel cs x hx
  exact ⟨a, hK _ _ _ ha, trivial⟩
def k51 : Kd S51 := Kd.iso (Kd.pair (Kd.int .i64) (Kd.pair (Kd.int .i64) kSum)) (fun x => (x.f0, (x.f1, x.f2)))
theorem k51_K {w : World} {x : S51} {cs : List Value} (h : k51.K w x cs) : cs = L51 x := by
  obtain ⟨c0, c1, rfl, h0, c2, c3, rfl, h2, h3⟩ := h
  rw [show c0 = [Value.int .i64 x.f0] from h0, show c2 = [Value.int .i64 x.f1] from h2, show c3 = sumL x.f2 from h3]
  rfl
theorem opens49 : Opens Tryd.prog 49 kSum (fun _ => True) := opens_sum Tryd.underlying49 Tryd.underlying5 (by kernel_rfl) (by kernel_rfl)
theorem opens51 : Opens Tryd.prog 51 k51 (fun _ => True) :=
  opens_weak (opens_struct (d := Kd.pair (Kd.int .i64) (Kd.pair (Kd.int .i64) kSum)) Tryd.underlying51 (by kernel_rfl) (opensAt_cons rfl (by kernel_rfl) (opens_int Tryd.underlying3) (opensAt_cons rfl (by kernel_rfl) (opens_int Tryd.underlying3) (opensAt_last rfl (by kernel_rfl) opens49))) (fun x : S51 => (x.f0, (x.f1, x.f2))) (fun p => ⟨p.1, p.2.1, p.2.2⟩) (fun _ => rfl)) (fun _ _ _ h => h)
theorem opens58 : Opens Tryd.prog 58 k58 (fun _ => True) :=
  opens_weak (opens_struct (d := Kd.pair Kd.string k51) Tryd.underlying58 (by kernel_rfl) (opensAt_cons rfl (by kernel_rfl) (opens_string Tryd.underlying9) (opensAt_last rfl (by kernel_rfl) opens51)) (fun x : S58 => (x.f0, x.f1)) (fun p => ⟨p.1, p.2⟩) (fun _ => rfl)) (fun w x cs h => by
    obtain ⟨c0, c1, rfl, h0, h1⟩ := h
    rw [show c0 = [Value.string x.f0] from h0, k51_K h1]
    rfl)
theorem opens22 : Opens Tryd.prog 22 (Kd.slice 58 k58) (fun _ => True) := opens_weak (opens_slice (e := 58) Tryd.underlying22 (by kernel_rfl) opens58) (fun _ _ _ h => h)
def k24 : Kd S24 := Kd.iso (Kd.pair (Kd.slice 58 k58) (Kd.pair (Kd.slice 58 k58) (Kd.slice 58 k58))) (fun x => (x.f0, (x.f1, x.f2)))
theorem opens24 : Opens Tryd.prog 24 k24 (fun _ => True) :=
  opens_weak (opens_struct (d := Kd.pair (Kd.slice 58 k58) (Kd.pair (Kd.slice 58 k58) (Kd.slice 58 k58))) Tryd.underlying24 (by kernel_rfl) (opensAt_cons rfl (by kernel_rfl) opens22 (opensAt_cons rfl (by kernel_rfl) opens22 (opensAt_last rfl (by kernel_rfl) opens22))) (fun x : S24 => (x.f0, (x.f1, x.f2))) (fun p => ⟨p.1, p.2.1, p.2.2⟩) (fun _ => rfl)) (fun _ _ _ h => h)
theorem k24_side {w : World} {x : S24} {cs : Array Value} (h : k24.K w x cs.toList) : SideIn w x cs := by
  obtain ⟨c0, c1, e, ⟨A, c, e0, h0, h1⟩, c2, c3, e', ⟨B, d, e2, h2, h3⟩, ⟨C, x3, e4, h4, h5⟩⟩ := h
  subst e' e0 e2 e4
  refine ⟨⟨A, c, B, d, C, x3, ?_, h0, h2, h4, h1, h3, h5⟩⟩
  cases cs
  exact congrArg Array.mk e
def k33o : Kd S33 := Kd.iso (Kd.pair (Kd.int .i64) (Kd.pair (Kd.int .i64) (Kd.pair Kd.string Kd.string))) (fun x => (x.f0, (x.f1, (x.f2, x.f3))))
theorem opens33 : Opens Tryd.prog 33 k33 (fun _ => True) :=
  opens_weak (opens_struct (d := Kd.pair (Kd.int .i64) (Kd.pair (Kd.int .i64) (Kd.pair Kd.string Kd.string))) Tryd.underlying33 (by kernel_rfl) (opensAt_cons rfl (by kernel_rfl) (opens_int Tryd.underlying3) (opensAt_cons rfl (by kernel_rfl) (opens_int Tryd.underlying3) (opensAt_cons rfl (by kernel_rfl) (opens_string Tryd.underlying9) (opensAt_last rfl (by kernel_rfl) (opens_string Tryd.underlying9))))) (fun x : S33 => (x.f0, (x.f1, (x.f2, x.f3)))) (fun p => ⟨p.1, p.2.1, p.2.2.1, p.2.2.2⟩) (fun _ => rfl)) (fun w x cs h => by
    obtain ⟨c0, c1, rfl, h0, c2, c3, rfl, h2, c4, c5, rfl, h4, h5⟩ := h
    rw [show c0 = [Value.int .i64 x.f0] from h0, show c2 = [Value.int .i64 x.f1] from h2, show c4 = [Value.string x.f2] from h4, show c5 = [Value.string x.f3] from h5]
    rfl)
theorem k33_open {w : World} {x : S33} {cs : Array Value} (h : k33.K w x cs.toList) : cs = A33 x := by
  have e : cs.toList = L33 x := h
  cases cs
  exact congrArg Array.mk e
end Go.Proofs.YtjllbkeobibnkaaDoor.Q

namespace Go.Proofs.YtjllbkeobibnkaaDoorP
open Go Go.Lib
/-! What a path is, parted at each /, and how two are compared. Plain: no program here. -/
/-- A text, parted at each byte 47. -/
def names : List UInt8 → List (List UInt8)
  | [] => [[]]
  | c :: l => if c = 47 then [] :: names l else match names l with
    | [] => [[c]]
    | n :: ns => (c :: n) :: ns
theorem names_ne (l : List UInt8) : names l ≠ [] := by
  cases l with
  | nil => simp [names]
  | cons c l =>
    unfold names
    split
    · simp
    · split <;> simp
theorem index_cons_eq (l : List UInt8) (c : UInt8) : index (c :: l) [c] = 0 := by
  unfold index
  simp [List.isPrefixOf]
theorem index_cons_ne (l : List UInt8) (b c : UInt8) (h : b ≠ c) : index (b :: l) [c] = if index l [c] == -1 then -1 else index l [c] + 1 := by
  rw [index]
  have h2 : ([c] : List UInt8).isPrefixOf (b :: l) = false := by simp [List.isPrefixOf, Ne.symm h]
  rw [h2]
  rfl
theorem index_ge (l : List UInt8) (c : UInt8) : -1 ≤ index l [c] := by
  induction l with
  | nil => simp [index]
  | cons b l ih =>
    by_cases h : b = c
    · subst h; rw [index_cons_eq]; omega
    · rw [index_cons_ne l b c h]
      split <;> omega
theorem index_none (l : List UInt8) (c : UInt8) : index l [c] = -1 ↔ count l [c] = 0 := by
  induction l with
  | nil => simp [index, count, countFrom]
  | cons b l ih =>
    have hg := index_ge l c
    by_cases h : b = c
    · subst h
      rw [index_cons_eq, count_cons_eq]
      omega
    · rw [index_cons_ne l b c h, count_cons_ne b c l h, ← ih]
      by_cases h2 : index l [c] = -1
      · simp [h2]
      · rw [if_neg (by simpa using h2)]
        omega
theorem split_names (l : List UInt8) : splitK [47] 0 (count l [47]) l = names l := by
  induction l with
  | nil => rfl
  | cons b l ih =>
    by_cases h : b = 47
    · subst h
      rw [count_cons_eq, Nat.add_comm, splitK, index_cons_eq, if_neg (by decide)]
      simp only [names, if_pos]
      simpa using ih
    · rw [count_cons_ne b 47 l h]
      simp only [names, if_neg h]
      rw [← ih]
      cases hk : count l [47] with
      | zero => simp [splitK]
      | succ k =>
        have hi : index l [47] ≠ -1 := fun e => by have := (index_none l 47).1 e; omega
        have hg := index_ge l 47
        obtain ⟨i, hii⟩ : ∃ i : Nat, index l [47] = (i : Int) := ⟨(index l [47]).toNat, by omega⟩
        rw [splitK, splitK, index_cons_ne l b 47 h, hii]
        have e1 : ¬ ((i : Int) == -1) = true := by simp <;> omega
        have e2 : ¬ ((i : Int) + 1 == -1) = true := by simp <;> omega
        rw [if_neg e1, if_neg e2, if_neg e1]
        have e3 : ((i : Int) + 1).toNat = i + 1 := by omega
        have e4 : (i : Int).toNat = i := by omega
        rw [e3, e4]
        simp
/-- names, put together again. -/
def joinN : List (List UInt8) → List UInt8
  | [] => []
  | [n] => n
  | n :: m :: ns => n ++ 47 :: joinN (m :: ns)
theorem joinN_cons (c : UInt8) (n : List UInt8) (ns : List (List UInt8)) : joinN ((c :: n) :: ns) = c :: joinN (n :: ns) := by
  cases ns <;> simp [joinN]
theorem joinN_names (l : List UInt8) : joinN (names l) = l := by
  induction l with
  | nil => rfl
  | cons c l ih =>
    have hne := names_ne l
    unfold names
    by_cases h : c = 47
    · rw [if_pos h]
      cases hn : names l with
      | nil => exact absurd hn hne
      | cons m ms => rw [joinN, ← hn, ih, h]; rfl
    · rw [if_neg h]
      cases hn : names l with
      | nil => exact absurd hn hne
      | cons m ms =>
        simp only
        rw [joinN_cons, ← hn, ih]
theorem names_inj {a b : List UInt8} (h : names a = names b) : a = b := by rw [← joinN_names a, ← joinN_names b, h]
/-! ### Comparing -/
/-- A comparison that parts whatever two are not one. -/
structure Good {α : Type} (f : α → α → Int) : Prop where
  refl : ∀ x, f x x = 0
  eq : ∀ x y, f x y = 0 → x = y
  lt : ∀ x y, f x y < 0 ↔ 0 < f y x
  trans : ∀ x y z, f x y < 0 → f y z < 0 → f x z < 0
/-- One list against another one, element by element. -/
def lexC {α : Type} (f : α → α → Int) : List α → List α → Int
  | [], [] => 0
  | [], _ :: _ => -1
  | _ :: _, [] => 1
  | a :: l, b :: m => if f a b = 0 then lexC f l m else f a b
theorem good_lex {α : Type} {f : α → α → Int} (g : Good f) : Good (lexC f) := by
  have hlt : ∀ x y : List α, lexC f x y < 0 ↔ 0 < lexC f y x := by
    intro x
    induction x with
    | nil =>
      intro y
      cases y <;> simp [lexC]
    | cons a la ih =>
      intro y
      cases y with
      | nil => simp [lexC]
      | cons b bs =>
        have h1 := g.lt a b
        have h2 := g.lt b a
        simp only [lexC]
        by_cases h : f a b = 0
        · have h' : f b a = 0 := by omega
          rw [if_pos h, if_pos h']
          exact ih bs
        · have h' : ¬ f b a = 0 := by omega
          rw [if_neg h, if_neg h']
          exact h1
  refine ⟨?_, ?_, hlt, ?_⟩
  · intro x
    induction x with
    | nil => rfl
    | cons a la ih => simp only [lexC]; rw [if_pos (g.refl a)]; exact ih
  · intro x
    induction x with
    | nil =>
      intro y h
      cases y with
      | nil => rfl
      | cons b bs => simp [lexC] at h
    | cons a la ih =>
      intro y h
      cases y with
      | nil => simp [lexC] at h
      | cons b bs =>
        simp only [lexC] at h
        by_cases h1 : f a b = 0
        · rw [if_pos h1] at h
          rw [g.eq a b h1, ih bs h]
        · rw [if_neg h1] at h
          exact absurd h h1
  · intro x
    induction x with
    | nil =>
      intro y z h1 h2
      cases z with
      | nil =>
        cases y with
        | nil => exact h1
        | cons b bs => simp [lexC] at h2
      | cons c cs => simp [lexC]
    | cons a la ih =>
      intro y z h1 h2
      cases y with
      | nil => simp [lexC] at h1
      | cons b bs =>
        cases z with
        | nil => simp [lexC] at h2
        | cons c cs =>
          simp only [lexC] at h1 h2 ⊢
          by_cases e1 : f a b = 0
          · have ea := g.eq a b e1
            subst ea
            rw [if_pos e1] at h1
            by_cases e2 : f a c = 0
            · rw [if_pos e2] at h2 ⊢
              exact ih bs cs h1 h2
            · rw [if_neg e2] at h2 ⊢
              exact h2
          · rw [if_neg e1] at h1
            by_cases e2 : f b c = 0
            · have eb := g.eq b c e2
              subst eb
              rw [if_neg e1]
              exact h1
            · rw [if_neg e2] at h2
              have h3 := g.trans a b c h1 h2
              rw [if_neg (by omega)]
              exact h3
def cmpU (a b : UInt8) : Int := if a < b then -1 else if b < a then 1 else 0
theorem cmpU_nat (a b : UInt8) : cmpU a b = if a.toNat < b.toNat then -1 else if b.toNat < a.toNat then 1 else 0 := by
  have hl : ∀ a b : UInt8, a < b ↔ a.toNat < b.toNat := fun a b => UInt8.lt_iff_toNat_lt
  unfold cmpU
  simp only [hl]
theorem good_u : Good cmpU := by
  refine ⟨?_, ?_, ?_, ?_⟩
  · intro x
    simp [cmpU]
  · intro x y h
    rw [cmpU_nat] at h
    apply UInt8.toNat.inj
    split at h
    · omega
    · split at h <;> omega
  · intro x y
    rw [cmpU_nat, cmpU_nat]
    split <;> split <;> (try split) <;> omega
  · intro x y z
    rw [cmpU_nat, cmpU_nat, cmpU_nat]
    split <;> split <;> (try split) <;> (try split) <;> (try split) <;> omega
theorem compare_lex : ∀ a b : List UInt8, compareBytes a b = lexC cmpU a b
  | [], [] => rfl
  | [], _ :: _ => rfl
  | _ :: _, [] => rfl
  | a :: la, b :: bs => by
    simp only [compareBytes, lexC, cmpU]
    rw [compare_lex la bs]
    by_cases h1 : a < b
    · simp [h1]
    · by_cases h2 : b < a
      · simp [h1, h2]
      · simp [h1, h2]
theorem good_bytes : Good compareBytes := by
  have h : compareBytes = lexC cmpU := by funext a b; exact compare_lex a b
  rw [h]
  exact good_lex good_u
/-- path.Compare: name by name, then by their number. -/
def cmpN : List (List UInt8) → List (List UInt8) → Int := lexC compareBytes
theorem good_names : Good cmpN := good_lex good_bytes
def pcmp (a b : ByteArray) : Int := cmpN (names a.data.toList) (names b.data.toList)
theorem good_path : Good pcmp where
  refl x := good_names.refl _
  eq x y h := by
    have h1 := names_inj (good_names.eq _ _ h)
    exact ByteArray.ext (Array.ext' h1)
  lt x y := good_names.lt _ _
  trans x y z := good_names.trans _ _ _
/-! ### Two sorted lists of the same -/
theorem perm_sorted {α : Type} (le : α → α → Prop) (anti : ∀ a b, le a b → le b a → a = b) : ∀ l m : List α, l.Perm m → l.Pairwise le → m.Pairwise le → (∀ a ∈ l, le a a) → l = m := by
  intro l
  induction l with
  | nil => intro m h _ _ _; exact h.nil_eq
  | cons a l ih =>
    intro m h hl hm hr
    cases m with
    | nil => exact absurd h.symm.nil_eq (by simp)
    | cons b m =>
      have hl' := List.pairwise_cons.1 hl
      have hm' := List.pairwise_cons.1 hm
      have hab : a = b := by
        have h1 : b ∈ a :: l := h.mem_iff.2 (by simp)
        have h2 : a ∈ b :: m := h.mem_iff.1 (by simp)
        rcases List.mem_cons.1 h1 with e | e
        · exact e.symm
        · rcases List.mem_cons.1 h2 with e2 | e2
          · exact e2
          · exact anti a b (hl'.1 b e) (hm'.1 a e2)
      subst hab
      rw [ih m (List.Perm.cons_inv h) hl'.2 hm'.2 (fun x hx => hr x (by simp [hx]))]
end Go.Proofs.YtjllbkeobibnkaaDoorP

namespace Go.Proofs.YtjllbkeobibnkaaDoorP
open Go Go.Lib
/-! What kind of a path a text is. Plain: no program here. -/
def signB (c : UInt8) : Bool := (decide (97 ≤ c) && decide (c ≤ 122)) || ((decide (48 ≤ c) && decide (c ≤ 57)) || (c == 95 || (c == 45 || c == 126)))
def signsL : List UInt8 := [97, 98, 99, 100, 101, 102, 103, 104, 105, 106, 107, 108, 109, 110, 111, 112, 113, 114, 115, 116, 117, 118, 119, 120, 121, 122, 48, 49, 50, 51, 52, 53, 54, 55, 56, 57, 95, 45, 126]
theorem signs_all : (List.range 256).all (fun n => decide (indexByte signsL (UInt8.ofNat n) < 0) == !signB (UInt8.ofNat n)) = true := by kernel_rfl
theorem signs_index (c : UInt8) : decide (indexByte signsL c < 0) = !signB c := by
  have h := List.all_eq_true.1 signs_all c.toNat (List.mem_range.2 c.toNat_lt)
  rw [UInt8.ofNat_toNat, beq_iff_eq] at h
  exact h
def plainL (s : List UInt8) : Bool := s.all signB && !s.isEmpty
/-- A name's kind; 0: it is none. -/
def kindL (s : List UInt8) : Int :=
  if 24 < s.length then 0 else if plainL (cut s [46]).1 = false then 0 else if (cut s [46]).2.2 = false then 1 else if plainL (cut s [46]).2.1 = true then 2 else 0
/-- The last one's kind, if all are names, and only the last one is a file's. -/
def kindsL : List (List UInt8) → Int → Option Int
  | [], k => some k
  | n :: l, _ => if kindL n = 0 then none else if kindL n = 2 ∧ l ≠ [] then none else kindsL l (kindL n)
def kindS (p : ByteArray) : Int × Int :=
  if 96 < p.size then (0, 3) else if p.size = 0 then (1, 0) else match kindsL (names p.data.toList) 0 with
    | none => (0, 18)
    | some k => if 8 < (names p.data.toList).length then (0, 7) else (k, 0)
theorem kindL_cases (s : List UInt8) : kindL s = 0 ∨ kindL s = 1 ∨ kindL s = 2 := by
  unfold kindL
  split
  · exact .inl rfl
  · split
    · exact .inl rfl
    · split
      · exact .inr (.inl rfl)
      · split
        · exact .inr (.inr rfl)
        · exact .inl rfl
end Go.Proofs.YtjllbkeobibnkaaDoorP

namespace Go.Proofs.YtjllbkeobibnkaaDoorP
open Go Go.Proofs Go.Shelf Go.RowKit Go.Lib
variable {P : Program} {ρ : Ren}
/-! strings.Cut at a sep of one byte: no package variable is asked. -/
set_option maxHeartbeats 2000000 in
set_option maxRecDepth 100000 in
theorem lite_cut_one (L : Lays.n220 P ρ) (s : ByteArray) (b : UInt8) (w : World) (hs : s.size < 4294967281) :
    Calls P (ρ.f 220) #[.string s, .string ⟨#[b]⟩] w fun e w' => e = .returned (.tuple #[.string ⟨(Lib.cut s.data.toList [b]).1.toArray⟩, .string ⟨(Lib.cut s.data.toList [b]).2.1.toArray⟩, .bool (Lib.cut s.data.toList [b]).2.2]) ∧ ∃ n, w' = w.drewN n := by
  have e0 : (⟨#[b]⟩ : ByteArray).data.toList = [b] := rfl
  rcases Lib.indexB_cases s ⟨#[b]⟩ with hix | ⟨i, hix, hroom⟩
  · obtain ⟨e1, e2, e3⟩ := Lib.cutB_miss s ⟨#[b]⟩ hix
    rw [e0] at e1 e2 e3
    rw [e1, e2, e3]
    have t3 := L.t3; have t4 := L.t4; have t9 := L.t9
    have a3 : ∀ w, (isAgg (ρ.t 3)).run P w = .ok false w := run_isAgg_plain L.t3 rfl; have a4 : ∀ w, (isAgg (ρ.t 4)).run P w = .ok false w := run_isAgg_plain L.t4 rfl; have a9 : ∀ w, (isAgg (ρ.t 9)).run P w = .ok false w := run_isAgg_plain L.t9 rfl
    have e219 : ∀ args w, (callFunc (ρ.f 219) args).run P w = .ok (.enter (ρ.f 219) args) w := enters_of L.f219 (by kernel_rfl) rfl
    have mixed := L.mixed; have z3 := L.z3; have v3 := L.v3; have z4 := L.z4; have v4 := L.v4; have z9 := L.z9; have v9 := L.v9
    have hib : Lib.indexByte s.data.toList b = -1 := by rw [← Lib.index_one]; exact hix
    go_enter L.f220, Body.n220_ntmps ρ
    go_wp2_with (go_at_fn (ρ.f 219); refine (Any.stringslite_Index_one { L with } _ _ _).mono ?_; rintro e w' ⟨rfl, rfl⟩; rw [hib])
    go_ret3
    exact ⟨rfl, 0, rfl⟩
  · obtain ⟨e1, e2, e3⟩ := Lib.cutB_hit s ⟨#[b]⟩ i hix
    have hs1 : (⟨#[b]⟩ : ByteArray).size = 1 := rfl
    rw [e0] at e1 e2 e3
    rw [e1, e2, e3]
    rw [hs1] at hroom
    have hib : Lib.indexByte s.data.toList b = (i : Int) := by rw [← Lib.index_one]; exact hix
    have c1 : (0 : Int) ≤ ↑i := by omega
    have c2 : (↑i : Int) ≤ ↑s.size := by omega
    have c3 : (0 : Int) ≤ ↑i + 1 := by omega
    have c4 : (↑i + 1 : Int) ≤ ↑s.size := by omega
    have c5 : IntKind.i64.wrap ((i : Int) + 1) = (i : Int) + 1 := IntWalk.i64_in _ (by omega)
    have t3 := L.t3; have t4 := L.t4; have t9 := L.t9
    have a3 : ∀ w, (isAgg (ρ.t 3)).run P w = .ok false w := run_isAgg_plain L.t3 rfl; have a4 : ∀ w, (isAgg (ρ.t 4)).run P w = .ok false w := run_isAgg_plain L.t4 rfl; have a9 : ∀ w, (isAgg (ρ.t 9)).run P w = .ok false w := run_isAgg_plain L.t9 rfl
    have e219 : ∀ args w, (callFunc (ρ.f 219) args).run P w = .ok (.enter (ρ.f 219) args) w := enters_of L.f219 (by kernel_rfl) rfl
    have mixed := L.mixed; have z3 := L.z3; have v3 := L.v3; have z4 := L.z4; have v4 := L.v4; have z9 := L.z9; have v9 := L.v9
    go_enter L.f220, Body.n220_ntmps ρ
    go_wp2_with (go_at_fn (ρ.f 219); refine (Any.stringslite_Index_one { L with } _ _ _).mono ?_; rintro e w' ⟨rfl, rfl⟩; rw [hib])
    go_region_o
    go_wp2
    go_ret3
    exact ⟨rfl, 1, rfl⟩
set_option maxHeartbeats 1000000 in
theorem cut_one (L : Lays.n145 P ρ) (s : ByteArray) (b : UInt8) (w : World) (hs : s.size < 4294967281) :
    Calls P (ρ.f 145) #[.string s, .string ⟨#[b]⟩] w fun e w' => e = .returned (.tuple #[.string ⟨(Lib.cut s.data.toList [b]).1.toArray⟩, .string ⟨(Lib.cut s.data.toList [b]).2.1.toArray⟩, .bool (Lib.cut s.data.toList [b]).2.2]) ∧ ∃ n, w' = w.drewN n := by
  have t4 := L.t4; have t9 := L.t9; have t59 := L.t59
  have a4 : ∀ w, (isAgg (ρ.t 4)).run P w = .ok false w := run_isAgg_plain L.t4 rfl; have a9 : ∀ w, (isAgg (ρ.t 9)).run P w = .ok false w := run_isAgg_plain L.t9 rfl; have a59 : ∀ w, (isAgg (ρ.t 59)).run P w = .ok false w := run_isAgg_plain L.t59 rfl
  have e220 : ∀ args w, (callFunc (ρ.f 220) args).run P w = .ok (.enter (ρ.f 220) args) w := enters_of L.f220 (by kernel_rfl) rfl
  have mixed := L.mixed; have z4 := L.z4; have v4 := L.v4; have z9 := L.z9; have v9 := L.v9; have z59 := L.z59; have v59 := L.v59
  go_enter L.f145, Body.n145_ntmps ρ
  go_wp2_with (go_at_fn (ρ.f 220); refine (lite_cut_one { L with } _ _ _ hs).mono ?_; rintro e w' ⟨rfl, n, rfl⟩)
  go_ret3
  exact ⟨rfl, n, rfl⟩
end Go.Proofs.YtjllbkeobibnkaaDoorP

namespace Go.Proofs.YtjllbkeobibnkaaDoorP
open Go Go.Proofs Go.Shelf Go.RowKit Go.Lib
variable {P : Program} {ρ : Ren}
/-! strings.Split at a sep of one byte: no package variable is asked. -/
set_option maxHeartbeats 1000000 in
theorem split_one (L : Lays.n146 P ρ) (hi9 : (P.info? (ρ.t 9)).map (fun i => (i.zero, i.size, i.bytes)) = some (some (.string ByteArray.empty), 1, 16)) (s : ByteArray) (b : UInt8) (w : World) (hs : s.size < 4294967281) :
    Calls P (ρ.f 146) #[.string s, .string ⟨#[b]⟩] w fun e w' =>
      e = .returned (.slice (some ⟨w.heap.size, 0, none⟩) (Lib.countB s ⟨#[b]⟩ + 1) (Lib.countB s ⟨#[b]⟩ + 1)) ∧ w' = w.alloc (.cells ((Lib.splitB ⟨#[b]⟩ 0 (Lib.countB s ⟨#[b]⟩) s).map Value.string).toArray (ρ.t 9)) := by
  have h1 : 1 ≤ (⟨#[b]⟩ : ByteArray).size := Nat.le_refl 1
  have hle := Lib.countB_le ⟨#[b]⟩ h1 s.size s (Nat.le_refl _)
  have hlen := Lib.splitB_all ⟨#[b]⟩ h1 0 _ s rfl
  have hcnt : Calls P (ρ.f 138) #[.string s, .string ⟨#[b]⟩] w fun e w' => e = .returned (.int .i64 (Lib.countB s ⟨#[b]⟩)) ∧ w' = w := by
    refine (Any.strings_Count_one { L with } s b w).mono fun e w' ⟨he, hw⟩ => ⟨?_, hw⟩
    rw [he]
    show _ = Ending.returned (Value.int .i64 ((Lib.count s.data.toList [b] : Nat) : Int))
    rw [Lib.count_one]
    rfl
  have c := Any.strings_genSplit_core { L with } hi9 s ⟨#[b]⟩ 0 (-1) (Lib.countB s ⟨#[b]⟩ + 1) w hs h1 (Nat.zero_le _)
    (fun x c _ => (Any.strings_Index_one { L with } x b _).mono (fun e w' h => ⟨by rw [h.1]; show _ = Ending.returned (Value.int .i64 (Lib.index x.data.toList [b])); rw [Lib.index_one], h.2⟩)) hcnt (by decide) (by decide) (by rw [if_pos (by decide)]; omega)
  rw [Nat.add_sub_cancel, hlen] at c
  have e2 : Lib.cellsOf (Lib.splitB ⟨#[b]⟩ 0 (Lib.countB s ⟨#[b]⟩) s) (Lib.countB s ⟨#[b]⟩ + 1) = ((Lib.splitB ⟨#[b]⟩ 0 (Lib.countB s ⟨#[b]⟩) s).map Value.string).toArray := by rw [← hlen]; exact Lib.cellsOf_full _
  rw [e2] at c
  have t3 := L.t3; have t9 := L.t9; have t31 := L.t31
  have a3 := L.a3; have a9 := L.a9; have a31 := L.a31
  have z3 := L.z3; have v3 := L.v3; have z9 := L.z9; have v9 := L.v9; have z31 := L.z31; have v31 := L.v31
  have e221 : ∀ args w, (callFunc (ρ.f 221) args).run P w = .ok (.enter (ρ.f 221) args) w := enters_of L.f221 (by kernel_rfl) rfl
  go_enter L.f146, Body.n146_ntmps ρ
  go_wp2_with (go_at_fn (ρ.f 221); refine c.mono ?_; rintro e w' ⟨rfl, hw⟩; rw [hw])
  go_ret
  exact ⟨rfl, rfl⟩
end Go.Proofs.YtjllbkeobibnkaaDoorP

namespace Go.Proofs.YtjllbkeobibnkaaDoor.Q
open Go Go.Proofs Go.Shelf
/-! The library's functions as they lie in this program: what the shelf's laying commands write, in plain words (tools/genlib.py). -/
def laySplit_ren : Go.Shelf.Ren := ⟨fun | 146 => 71 | 221 => 86 | 268 => 96 | 138 => 97 | 143 => 98 | 195 => 104 | 197 => 105 | 218 => 106 | 219 => 107 | 260 => 109 | 217 => 108 | 225 => 110 | 224 => 111 | 267 => 112 | 266 => 113 | 314 => 114 | n => n, fun | 9 => 9 | 31 => 41 | 3 => 3 | 4 => 4 | 0 => 0 | 105 => 127 | 21 => 21 | 5 => 5 | 46 => 111 | 119 => 130 | 139 => 133 | 138 => 132 | 146 => 135 | 51 => 134 | n => n, fun | 1 => 0 | 3 => 1 | 4 => 2 | n => n⟩
set_option maxRecDepth 100000 in
theorem laySplit : Go.Proofs.Lays.n146 Tryd.prog laySplit_ren := {
  mixed := by kernel_rfl,
  f138 := Tryd.func97.trans (congrArg some (by kernel_rfl)),
  f143 := Tryd.func98.trans (congrArg some (by kernel_rfl)),
  f146 := Tryd.func71.trans (congrArg some (by kernel_rfl)),
  f195 := Tryd.func104.trans (congrArg some (by kernel_rfl)),
  f197 := Tryd.func105.trans (congrArg some (by kernel_rfl)),
  f217 := Tryd.func108.trans (congrArg some (by kernel_rfl)),
  f218 := Tryd.func106.trans (congrArg some (by kernel_rfl)),
  f219 := Tryd.func107.trans (congrArg some (by kernel_rfl)),
  f221 := Tryd.func86.trans (congrArg some (by kernel_rfl)),
  f224 := Tryd.func111.trans (congrArg some (by kernel_rfl)),
  f225 := Tryd.func110.trans (congrArg some (by kernel_rfl)),
  f260 := Tryd.func109.trans (congrArg some (by kernel_rfl)),
  f266 := Tryd.func113.trans (congrArg some (by kernel_rfl)),
  f267 := Tryd.func112.trans (congrArg some (by kernel_rfl)),
  f268 := Tryd.func96.trans (congrArg some (by kernel_rfl)),
  f314 := Tryd.func114.trans (congrArg some (by kernel_rfl)),
  t0 := Tryd.underlying0,
  a0 := Tryd.isAgg0,
  z0 := Tryd.sizeOf0,
  v0 := Tryd.zeroValue0,
  t3 := Tryd.underlying3,
  a3 := Tryd.isAgg3,
  z3 := Tryd.sizeOf3,
  v3 := Tryd.zeroValue3,
  t4 := Tryd.underlying4,
  a4 := Tryd.isAgg4,
  z4 := Tryd.sizeOf4,
  v4 := Tryd.zeroValue4,
  t5 := Tryd.underlying5,
  a5 := Tryd.isAgg5,
  z5 := Tryd.sizeOf5,
  v5 := Tryd.zeroValue5,
  t9 := Tryd.underlying9,
  a9 := Tryd.isAgg9,
  z9 := Tryd.sizeOf9,
  v9 := Tryd.zeroValue9,
  t21 := Tryd.underlying21,
  a21 := Tryd.isAgg21,
  z21 := Tryd.sizeOf21,
  v21 := Tryd.zeroValue21,
  t31 := Tryd.underlying41,
  a31 := Tryd.isAgg41,
  z31 := Tryd.sizeOf41,
  v31 := Tryd.zeroValue41,
  t46 := Tryd.underlying111,
  a46 := Tryd.isAgg111,
  z46 := Tryd.sizeOf111,
  v46 := Tryd.zeroValue111,
  t51 := Tryd.underlying134,
  a51 := Tryd.isAgg134,
  z51 := Tryd.sizeOf134,
  v51 := Tryd.zeroValue134,
  t105 := Tryd.underlying127,
  a105 := Tryd.isAgg127,
  z105 := Tryd.sizeOf127,
  v105 := Tryd.zeroValue127,
  t119 := Tryd.underlying130,
  a119 := Tryd.isAgg130,
  z119 := Tryd.sizeOf130,
  t138 := Tryd.underlying132,
  a138 := Tryd.isAgg132,
  z138 := Tryd.sizeOf132,
  v138 := Tryd.zeroValue132,
  t139 := Tryd.underlying133,
  a139 := Tryd.isAgg133,
  z139 := Tryd.sizeOf133,
  v139 := Tryd.zeroValue133,
  t146 := Tryd.underlying135,
  a146 := Tryd.isAgg135,
  z146 := Tryd.sizeOf135,
  v146 := Tryd.zeroValue135,
  g1 := by kernel_rfl,
  g3 := by kernel_rfl,
  g4 := by kernel_rfl }
def layStrCmp_ren : Go.Shelf.Ren := ⟨fun | 106 => 81 | 213 => 93 | 265 => 103 | n => n, fun | 9 => 9 | 3 => 3 | n => n, fun | n => n⟩
set_option maxRecDepth 100000 in
theorem layStrCmp : Go.Proofs.Lays.n106 Tryd.prog layStrCmp_ren := {
  mixed := by kernel_rfl,
  f106 := Tryd.func81.trans (congrArg some (by kernel_rfl)),
  f213 := Tryd.func93.trans (congrArg some (by kernel_rfl)),
  f265 := Tryd.func103.trans (congrArg some (by kernel_rfl)),
  t3 := Tryd.underlying3,
  a3 := Tryd.isAgg3,
  z3 := Tryd.sizeOf3,
  v3 := Tryd.zeroValue3,
  t9 := Tryd.underlying9,
  a9 := Tryd.isAgg9,
  z9 := Tryd.sizeOf9,
  v9 := Tryd.zeroValue9 }
def layCut_ren : Go.Shelf.Ren := ⟨fun | 145 => 87 | 220 => 99 | 219 => 107 | 217 => 108 | 225 => 110 | 224 => 111 | 267 => 112 | 266 => 113 | 314 => 114 | n => n, fun | 9 => 9 | 4 => 4 | 59 => 116 | 3 => 3 | 5 => 5 | 46 => 111 | 146 => 135 | 51 => 134 | n => n, fun | 1 => 0 | n => n⟩
set_option maxRecDepth 100000 in
theorem layCut : Go.Proofs.Lays.n145 Tryd.prog layCut_ren := {
  mixed := by kernel_rfl,
  f145 := Tryd.func87.trans (congrArg some (by kernel_rfl)),
  f217 := Tryd.func108.trans (congrArg some (by kernel_rfl)),
  f219 := Tryd.func107.trans (congrArg some (by kernel_rfl)),
  f220 := Tryd.func99.trans (congrArg some (by kernel_rfl)),
  f224 := Tryd.func111.trans (congrArg some (by kernel_rfl)),
  f225 := Tryd.func110.trans (congrArg some (by kernel_rfl)),
  f266 := Tryd.func113.trans (congrArg some (by kernel_rfl)),
  f267 := Tryd.func112.trans (congrArg some (by kernel_rfl)),
  f314 := Tryd.func114.trans (congrArg some (by kernel_rfl)),
  t3 := Tryd.underlying3,
  a3 := Tryd.isAgg3,
  z3 := Tryd.sizeOf3,
  v3 := Tryd.zeroValue3,
  t4 := Tryd.underlying4,
  a4 := Tryd.isAgg4,
  z4 := Tryd.sizeOf4,
  v4 := Tryd.zeroValue4,
  t5 := Tryd.underlying5,
  a5 := Tryd.isAgg5,
  z5 := Tryd.sizeOf5,
  v5 := Tryd.zeroValue5,
  t9 := Tryd.underlying9,
  a9 := Tryd.isAgg9,
  z9 := Tryd.sizeOf9,
  v9 := Tryd.zeroValue9,
  t46 := Tryd.underlying111,
  a46 := Tryd.isAgg111,
  z46 := Tryd.sizeOf111,
  v46 := Tryd.zeroValue111,
  t51 := Tryd.underlying134,
  a51 := Tryd.isAgg134,
  z51 := Tryd.sizeOf134,
  v51 := Tryd.zeroValue134,
  t59 := Tryd.underlying116,
  a59 := Tryd.isAgg116,
  z59 := Tryd.sizeOf116,
  v59 := Tryd.zeroValue116,
  t146 := Tryd.underlying135,
  a146 := Tryd.isAgg135,
  z146 := Tryd.sizeOf135,
  v146 := Tryd.zeroValue135,
  g1 := by kernel_rfl }
def layIndexByte_ren : Go.Shelf.Ren := ⟨fun | 137 => 100 | 217 => 108 | 266 => 113 | n => n, fun | 9 => 9 | 5 => 5 | 3 => 3 | n => n, fun | n => n⟩
set_option maxRecDepth 100000 in
theorem layIndexByte : Go.Proofs.Lays.n137 Tryd.prog layIndexByte_ren := {
  mixed := by kernel_rfl,
  f137 := Tryd.func100.trans (congrArg some (by kernel_rfl)),
  f217 := Tryd.func108.trans (congrArg some (by kernel_rfl)),
  f266 := Tryd.func113.trans (congrArg some (by kernel_rfl)),
  t3 := Tryd.underlying3,
  a3 := Tryd.isAgg3,
  z3 := Tryd.sizeOf3,
  v3 := Tryd.zeroValue3,
  t5 := Tryd.underlying5,
  a5 := Tryd.isAgg5,
  z5 := Tryd.sizeOf5,
  v5 := Tryd.zeroValue5,
  t9 := Tryd.underlying9,
  a9 := Tryd.isAgg9,
  z9 := Tryd.sizeOf9,
  v9 := Tryd.zeroValue9 }
def layLastIdx_ren : Go.Shelf.Ren := ⟨fun | 149 => 76 | 222 => 90 | n => n, fun | 9 => 9 | 5 => 5 | 3 => 3 | 4 => 4 | n => n, fun | n => n⟩
set_option maxRecDepth 100000 in
theorem layLastIdx : Go.Proofs.Lays.n149 Tryd.prog layLastIdx_ren := {
  mixed := by kernel_rfl,
  f149 := Tryd.func76.trans (congrArg some (by kernel_rfl)),
  f222 := Tryd.func90.trans (congrArg some (by kernel_rfl)),
  t3 := Tryd.underlying3,
  a3 := Tryd.isAgg3,
  z3 := Tryd.sizeOf3,
  v3 := Tryd.zeroValue3,
  t4 := Tryd.underlying4,
  a4 := Tryd.isAgg4,
  z4 := Tryd.sizeOf4,
  v4 := Tryd.zeroValue4,
  t5 := Tryd.underlying5,
  a5 := Tryd.isAgg5,
  z5 := Tryd.sizeOf5,
  v5 := Tryd.zeroValue5,
  t9 := Tryd.underlying9,
  a9 := Tryd.isAgg9,
  z9 := Tryd.sizeOf9,
  v9 := Tryd.zeroValue9 }
def layIntCmp_ren : Go.Shelf.Ren := ⟨fun | 5 => 82 | 7 => 94 | n => n, fun | 22 => 3 | 3 => 3 | 4 => 4 | n => n, fun | n => n⟩
set_option maxRecDepth 100000 in
theorem layIntCmp : Go.Proofs.SlLaysC2.n5 Tryd.prog layIntCmp_ren := {
  mixed := by kernel_rfl,
  f5 := ⟨Tryd.f82.name, by decide, Tryd.func82.trans (congrArg some (by kernel_rfl))⟩,
  f7 := ⟨Tryd.f94.name, by decide, Tryd.func94.trans (congrArg some (by kernel_rfl))⟩,
  t3 := Tryd.underlying3,
  a3 := Tryd.isAgg3,
  z3 := Tryd.sizeOf3,
  v3 := Tryd.zeroValue3,
  t4 := Tryd.underlying4,
  a4 := Tryd.isAgg4,
  z4 := Tryd.sizeOf4,
  v4 := Tryd.zeroValue4,
  t22 := Tryd.underlying3,
  a22 := Tryd.isAgg3,
  z22 := Tryd.sizeOf3,
  v22 := Tryd.zeroValue3 }
end Go.Proofs.YtjllbkeobibnkaaDoor.Q

namespace Go.Proofs.YtjllbkeobibnkaaDoor.Q
open Go Go.Proofs Go.Shelf Go.RowKit Go.Lib Go.Sort Go.Proofs.YtjllbkeobibnkaaDoorP Go.Proofs.YtjllbkeobibnkaaDoorK Go.Proofs.YtjllbkeobibnkaaDoorW.PrintWords Go.Proofs.YtjllbkeobibnkaaDoorW.PrintLast Go.Proofs.YtjllbkeobibnkaaDoorW.PrintMore
set_option linter.unusedSimpArgs false
set_option linter.unusedVariables false
/-! ### path.plain, path.kind, path.Kind -/
theorem split_c (W : World) (s : ByteArray) (hs : s.size < 4294967281) : Calls Tryd.prog 71 #[.string s, .string ⟨#[47]⟩] W fun e w' => ∃ l : List ByteArray, Aside0 (l.map (·.data.toList) = names s.data.toList) ∧ l.length ≤ 4294967281 ∧ e = .returned (.slice (some ⟨W.heap.size, 0, none⟩) l.length l.length) ∧ w' = W.alloc (.cells (l.map Value.string).toArray 9) := by
  have h := split_one laySplit (by kernel_rfl) s 47 W hs
  have hl := Lib.splitB_all ⟨#[47]⟩ (Nat.le_refl 1) 0 _ s rfl
  have hn : (Lib.splitB ⟨#[47]⟩ 0 (Lib.countB s ⟨#[47]⟩) s).map (·.data.toList) = names s.data.toList := by
    rw [Lib.splitB_data]
    exact split_names s.data.toList
  refine Calls.mono h ?_
  rintro e w' ⟨rfl, rfl⟩
  have hc := Lib.countB_le ⟨#[47]⟩ (Nat.le_refl 1) s.size s (Nat.le_refl _)
  exact ⟨_, ⟨hn⟩, by rw [hl]; omega, by rw [hl], rfl⟩
attribute [local go_sem] cell_held frozen_held
theorem idx_c (W : World) (c : UInt8) : Calls Tryd.prog 100 #[.string ⟨#[97, 98, 99, 100, 101, 102, 103, 104, 105, 106, 107, 108, 109, 110, 111, 112, 113, 114, 115, 116, 117, 118, 119, 120, 121, 122, 48, 49, 50, 51, 52, 53, 54, 55, 56, 57, 95, 45, 126]⟩, .int .u8 (c.toNat : Int)] W fun e w' => e = .returned (.int .i64 (indexByte signsL c)) ∧ w' = W := by
  have h := Any.strings_IndexByte layIndexByte ⟨#[97, 98, 99, 100, 101, 102, 103, 104, 105, 106, 107, 108, 109, 110, 111, 112, 113, 114, 115, 116, 117, 118, 119, 120, 121, 122, 48, 49, 50, 51, 52, 53, 54, 55, 56, 57, 95, 45, 126]⟩ (c.toNat : Int) W
  have e : ((c.toNat : Int).toNat.toUInt8) = c := by simp
  rw [e] at h
  exact h
set_option maxRecDepth 100000 in
set_option maxHeartbeats 1000000 in
theorem plain_any (w : World) (s : ByteArray) (hs : s.size ≤ 65536) : Calls Tryd.prog 88 #[.string s] w fun e w' => e = .returned (.bool (plainL s.data.toList)) ∧ ∃ q, w' = w.drewN q := by
  obtain ⟨r, hr⟩ : ∃ r, plainL s.data.toList = r := ⟨_, rfl⟩
  have HR := Aside0.mk hr
  have HL : s.data.toList.length = s.size := by simp
  have HL := Aside0.mk HL
  rw [hr]
  clear hr
  go_enter Tryd.func88, Tryd.ntmps88
  go_wp2_with fail
  go_loopw [6] (fun i wr => ∃ k q : Nat, k ≤ s.size ∧ i = .int .i64 (k : Int) ∧ Aside0 ((s.data.toList.take k).all signB = true) ∧ Aside0 (wr = w.drewN q)) (fun i _ => s.size - (RowKit.intOf i).toNat)
  case atStart => exact ⟨0, 0, Nat.zero_le _, rfl, ⟨rfl⟩, ⟨rfl⟩⟩
  case round =>
    obtain ⟨k, q, hk, rfl, HA, HW⟩ := hrel
    have hw := HW.out
    subst hw
    clear HW
    by_cases hlt : k < s.size
    · have hsig := signs_index s[k]
      have hic := fun W => idx_c W s[k]
      have htk : Aside0 ((s.data.toList.take (k + 1)).all signB = signB s[k]) := ⟨by
        rw [List.take_succ_eq_append_getElem (by rw [HL.out]; exact hlt), List.all_append, HA.out]
        show (true && List.all [s[k]] signB) = _
        simp⟩
      cases hb : signB s[k] with
      | true =>
        rw [hb] at hsig htk
        have hz := of_decide_eq_false (show decide (indexByte signsL s[k] < 0) = false from hsig)
        generalize indexByte signsL s[k] = z at hic hz
        have HIC := Aside0.mk hic
        clear hic hsig hb
        go_wp2_with fail
        refine (HIC.out _).mono ?_
        rintro e w1 ⟨rfl, rfl⟩
        go_wp2_with fail
        go_roundw
        case rel => exact ⟨k + 1, _, by omega, by go_num, htk, ⟨rfl⟩⟩
        case measure => simp [RowKit.intOf]; omega
      | false =>
        rw [hb] at hsig htk
        have hz := of_decide_eq_true (show decide (indexByte signsL s[k] < 0) = true from hsig)
        generalize indexByte signsL s[k] = z at hic hz
        have HIC := Aside0.mk hic
        clear hic hsig hb
        go_wp2_with fail
        refine (HIC.out _).mono ?_
        rintro e w1 ⟨rfl, rfl⟩
        go_wp2_with fail
        go_ret
        refine ⟨?_, _, rfl⟩
        have h1 : s.data.toList.all signB = false := by
          rw [← List.take_append_drop (k + 1) s.data.toList, List.all_append, htk.out, Bool.false_and]
        have h2 : r = false := by rw [← HR.out]; unfold plainL; rw [h1]; rfl
        rw [h2]
        rfl
    · obtain rfl : k = s.size := by omega
      have h1 := HA.out
      rw [List.take_of_length_le (by rw [HL.out]; exact Nat.le_refl _)] at h1
      have hr2 := HR.out
      unfold plainL at hr2
      rw [h1, Bool.true_and] at hr2
      have HR2 := Aside0.mk hr2
      clear h1 hr2
      go_wp2_with fail
      go_ret
      refine ⟨?_, _, rfl⟩
      rw [← HR2.out]
      show Ending.returned _ = _
      simp [ByteArray.toList_eq]
theorem cut_len (l m : List UInt8) : (cut l m).1.length ≤ l.length ∧ (cut l m).2.1.length ≤ l.length := by
  unfold cut
  split
  · exact ⟨by rw [List.length_take]; omega, by rw [List.length_drop]; omega⟩
  · exact ⟨Nat.le_refl _, Nat.zero_le _⟩
theorem bsize (l : List UInt8) : (⟨l.toArray⟩ : ByteArray).size = l.length := rfl
set_option maxRecDepth 100000 in
set_option maxHeartbeats 1000000 in
theorem kind_any (w : World) (s : ByteArray) (hs : s.size ≤ 65536) : Calls Tryd.prog 72 #[.string s] w fun e w' => e = .returned (.int .i64 (kindL s.data.toList)) ∧ ∃ q, w' = w.drewN q := by
  have hcut := fun W => cut_one layCut s 46 W (by omega)
  have hcl := cut_len s.data.toList [46]
  have hsl : s.data.toList.length = s.size := by simp
  obtain ⟨r, hr⟩ : ∃ r, kindL s.data.toList = r := ⟨_, rfl⟩
  rw [hr]
  unfold kindL at hr
  rw [hsl] at hr hcl
  obtain ⟨a, b, d, hc⟩ : ∃ a b d, cut s.data.toList [46] = (a, b, d) := ⟨_, _, _, rfl⟩
  rw [hc] at hr hcl
  simp only [hc] at hcut
  dsimp only at hr hcl hcut
  have hpa := fun W => plain_any W ⟨a.toArray⟩ (by rw [bsize]; omega)
  have hpb := fun W => plain_any W ⟨b.toArray⟩ (by rw [bsize]; omega)
  have ea : (⟨a.toArray⟩ : ByteArray).data.toList = a := rfl
  have eb : (⟨b.toArray⟩ : ByteArray).data.toList = b := rfl
  rw [ea] at hpa
  rw [eb] at hpb
  change ∀ W, Calls Tryd.prog 87 _ W _ at hcut
  have HC := Aside0.mk hcut
  have HPA := Aside0.mk hpa
  have HPB := Aside0.mk hpb
  clear hcut hpa hpb hc hcl ea eb hsl
  by_cases h24 : 24 < s.size
  · rw [if_pos h24] at hr
    subst hr
    have hd : decide (24 < (s.size : Int)) = true := decide_eq_true (by omega)
    clear h24
    go_enter Tryd.func72, Tryd.ntmps72
    go_wp2_with fail
    refine (HC.out _).mono ?_
    rintro e w1 ⟨rfl, n1, rfl⟩
    go_wp2_with fail
    go_ret
    exact ⟨rfl, _, rfl⟩
  · rw [if_neg h24] at hr
    have hd : decide (24 < (s.size : Int)) = false := decide_eq_false (by omega)
    clear h24
    cases hpl : plainL a with
    | false =>
      rw [if_pos hpl] at hr
      have HPA := HPA.out
      rw [hpl] at HPA
      have HPA := Aside0.mk HPA
      clear hpl
      subst hr
      go_enter Tryd.func72, Tryd.ntmps72
      go_wp2_with fail
      refine (HC.out _).mono ?_
      rintro e w1 ⟨rfl, n1, rfl⟩
      go_wp2_with fail
      refine (HPA.out _).mono ?_
      rintro e w1 ⟨rfl, n2, rfl⟩
      go_wp2_with fail
      go_ret
      exact ⟨rfl, _, rfl⟩
    | true =>
      rw [if_neg (by rw [hpl]; decide)] at hr
      have HPA := HPA.out
      rw [hpl] at HPA
      have HPA := Aside0.mk HPA
      clear hpl
      cases d with
      | false =>
        rw [if_pos rfl] at hr
        subst hr
        go_enter Tryd.func72, Tryd.ntmps72
        go_wp2_with fail
        refine (HC.out _).mono ?_
        rintro e w1 ⟨rfl, n1, rfl⟩
        go_wp2_with fail
        refine (HPA.out _).mono ?_
        rintro e w1 ⟨rfl, n2, rfl⟩
        go_wp2_with fail
        go_ret
        exact ⟨rfl, _, rfl⟩
      | true =>
        rw [if_neg (by decide)] at hr
        cases hpl2 : plainL b with
        | true =>
          rw [if_pos hpl2] at hr
          subst hr
          have HPB := HPB.out
          rw [hpl2] at HPB
          have HPB := Aside0.mk HPB
          clear hpl2
          go_enter Tryd.func72, Tryd.ntmps72
          go_wp2_with fail
          refine (HC.out _).mono ?_
          rintro e w1 ⟨rfl, n1, rfl⟩
          go_wp2_with fail
          refine (HPA.out _).mono ?_
          rintro e w1 ⟨rfl, n2, rfl⟩
          go_wp2_with fail
          refine (HPB.out _).mono ?_
          rintro e w1 ⟨rfl, n3, rfl⟩
          go_wp2_with fail
          go_ret
          exact ⟨rfl, _, rfl⟩
        | false =>
          rw [if_neg (by rw [hpl2]; decide)] at hr
          subst hr
          have HPB := HPB.out
          rw [hpl2] at HPB
          have HPB := Aside0.mk HPB
          clear hpl2
          go_enter Tryd.func72, Tryd.ntmps72
          go_wp2_with fail
          refine (HC.out _).mono ?_
          rintro e w1 ⟨rfl, n1, rfl⟩
          go_wp2_with fail
          refine (HPA.out _).mono ?_
          rintro e w1 ⟨rfl, n2, rfl⟩
          go_wp2_with fail
          refine (HPB.out _).mono ?_
          rintro e w1 ⟨rfl, n3, rfl⟩
          go_wp2_with fail
          go_ret
          exact ⟨rfl, _, rfl⟩
theorem names_size (l : List UInt8) : ∀ n ∈ names l, n.length ≤ l.length := by
  induction l with
  | nil => intro n hn; simp [names] at hn; simp [hn]
  | cons c l ih =>
    intro n hn
    unfold names at hn
    split at hn
    · rcases List.mem_cons.1 hn with e | hn
      · rw [e]; exact Nat.zero_le _
      · exact Nat.le_succ_of_le (ih n hn)
    · split at hn
      · rename_i he
        exact absurd he (names_ne l)
      · rename_i m ms he
        rcases List.mem_cons.1 hn with e | hn
        · rw [e, List.length_cons, List.length_cons]
          exact Nat.succ_le_succ (ih m (by rw [he]; exact List.mem_cons_self))
        · exact Nat.le_succ_of_le (ih n (by rw [he]; exact List.mem_cons_of_mem _ hn))
theorem size_zero_list (p : ByteArray) : p.toList = [] ↔ p.size = 0 := by
  rw [ByteArray.toList_eq]
  exact ⟨fun h => by have : p.data.toList.length = 0 := by rw [h]; rfl
                     simpa using this, fun h => List.eq_nil_of_length_eq_zero (by simpa using h)⟩
set_option maxRecDepth 100000 in
set_option maxHeartbeats 2000000 in
theorem Kind_any (w : World) (p : ByteArray) (hp : p.size ≤ 65536) : Calls Tryd.prog 47 #[.string p] w fun e w' => e = .returned (.tuple #[.int .i64 (kindS p).1, .int .i64 (kindS p).2]) ∧ Below w.heap.size w w' := by
  obtain ⟨r1, r2, hr⟩ : ∃ a b, kindS p = (a, b) := ⟨_, _, rfl⟩
  rw [hr]
  unfold kindS at hr
  dsimp only
  by_cases h96 : 96 < p.size
  · rw [if_pos h96] at hr
    cases hr
    have hd : decide (96 < (p.size : Int)) = true := decide_eq_true (by omega)
    clear h96
    go_enter Tryd.func47, Tryd.ntmps47
    go_wp2_with fail
    go_ret2
    exact ⟨rfl, bel _ _⟩
  · rw [if_neg h96] at hr
    have hd : decide (96 < (p.size : Int)) = false := decide_eq_false (by omega)
    clear h96
    by_cases h0 : p.size = 0
    · rw [if_pos h0] at hr
      cases hr
      have hz := (size_zero_list p).2 h0
      have hz1 : (p.toList == []) = true := by rw [hz]; rfl
      clear h0 hz
      go_enter Tryd.func47, Tryd.ntmps47
      go_wp2_with fail
      go_ret2
      exact ⟨rfl, bel _ _⟩
    · rw [if_neg h0] at hr
      have hz1 : (p.toList == []) = false := beq_eq_false_iff_ne.mpr (fun e => h0 ((size_zero_list p).1 e))
      have hs := fun W => split_c W p (by omega)
      have hns := names_size p.data.toList
      have hpl : p.data.toList.length = p.size := by simp
      rw [hpl] at hns
      have HS := Aside0.mk hs
      have HR := Aside0.mk hr
      have HN := Aside0.mk hns
      have HP := Aside0.mk hp
      clear h0 hs hr hns hpl hp
      go_enter Tryd.func47, Tryd.ntmps47
      go_wp2_with fail
      refine (HS.out _).mono ?_
      rintro e w1 ⟨l, hl, nl, rfl, rfl⟩
      have HK : ∀ x ∈ l, x.size ≤ 65536 := fun x hx => by
        have h1 := HN.out x.data.toList (by rw [← hl.out]; exact List.mem_map_of_mem hx)
        have h2 := HP.out
        have h3 : x.data.toList.length = x.size := by simp
        omega
      have HK := Aside0.mk HK
      have hr := HR.out
      rw [← hl.out, List.length_map] at hr
      have HR := Aside0.mk hr
      clear hl hr
      go_wp2_with fail
      go_loopw [5, 19] (fun s i wr => ∃ (k q : Nat) (last : Int), k ≤ l.length ∧ s = .int .i64 last ∧ i = .int .i64 (k : Int) ∧ Aside0 (kindsL ((l.drop k).map (·.data.toList)) last = kindsL (l.map (·.data.toList)) 0) ∧ Aside0 (wr = (w.alloc (.cells (l.map Value.string).toArray 9)).drewN q)) (fun _ i _ => l.length - (RowKit.intOf i).toNat)
      case atStart => exact ⟨0, 0, 0, Nat.zero_le _, rfl, rfl, ⟨rfl⟩, ⟨rfl⟩⟩
      case round =>
        obtain ⟨k, q, last, hk, rfl, rfl, HA, HW⟩ := hrel
        have hw := HW.out
        subst hw
        clear HW
        by_cases hlt : k < l.length
        · have hA := HA.out
          rw [List.drop_eq_getElem_cons hlt, List.map_cons, kindsL] at hA
          have hki := fun W => kind_any W l[k] (HK.out _ (List.getElem_mem hlt))
          have hcs := kindL_cases l[k].data.toList
          generalize kindL l[k].data.toList = kk at hA hki hcs
          have HKI := Aside0.mk hki
          clear hki HA
          rcases hcs with rfl | rfl | rfl
          · rw [if_pos rfl] at hA
            have hR := HR.out
            rw [← hA] at hR
            cases hR
            clear hA
            go_wp2_with fail
            refine (HKI.out _).mono ?_
            rintro e w1 ⟨rfl, n1, rfl⟩
            go_wp2_with fail
            go_ret2
            exact ⟨rfl, bel _ _⟩
          · rw [if_neg (by decide), if_neg (fun h => absurd h.1 (by decide))] at hA
            have HA := Aside0.mk hA
            clear hA
            go_wp2_with fail
            refine (HKI.out _).mono ?_
            rintro e w1 ⟨rfl, n1, rfl⟩
            go_wp2_with fail
            go_roundw
            case rel => exact ⟨k + 1, _, 1, by omega, rfl, by go_num, HA, ⟨rfl⟩⟩
            case measure => simp [RowKit.intOf]; omega
          · rw [if_neg (by decide)] at hA
            by_cases hlast : k + 1 < l.length
            · rw [if_pos ⟨rfl, by simp; omega⟩] at hA
              have hR := HR.out
              rw [← hA] at hR
              cases hR
              clear hA
              have hd2 : decide ((k : Int) < (l.length : Int) - 1) = true := decide_eq_true (by omega)
              go_wp2_with fail
              refine (HKI.out _).mono ?_
              rintro e w1 ⟨rfl, n1, rfl⟩
              go_wp2_with fail
              go_ret2
              exact ⟨rfl, bel _ _⟩
            · rw [if_neg (by simp; omega)] at hA
              have HA := Aside0.mk hA
              clear hA
              have hd2 : decide ((k : Int) < (l.length : Int) - 1) = false := decide_eq_false (by omega)
              go_wp2_with fail
              refine (HKI.out _).mono ?_
              rintro e w1 ⟨rfl, n1, rfl⟩
              go_wp2_with fail
              go_roundw
              case rel => exact ⟨k + 1, _, 2, by omega, rfl, by go_num, HA, ⟨rfl⟩⟩
              case measure => simp [RowKit.intOf]; omega
        · have hA := HA.out
          rw [List.drop_of_length_le (by omega)] at hA
          have hR := HR.out
          rw [← hA] at hR
          simp only [List.map_nil, kindsL] at hR
          clear hA HA HR
          by_cases h8 : 8 < l.length
          · rw [if_pos h8] at hR
            cases hR
            have hd2 : decide (8 < (l.length : Int)) = true := decide_eq_true (by omega)
            go_wp2_with fail
            go_ret2
            exact ⟨rfl, bel _ _⟩
          · rw [if_neg h8] at hR
            cases hR
            have hd2 : decide (8 < (l.length : Int)) = false := decide_eq_false (by omega)
            go_wp2_with fail
            go_ret2
            exact ⟨rfl, bel _ _⟩
/-- Is a text a path? -/
def isP (p : ByteArray) : Bool := (kindS p).2 == 0
set_option maxHeartbeats 1000000 in
theorem is_any (w : World) (p : ByteArray) (hp : p.size ≤ 65536) : Calls Tryd.prog 75 #[.string p, .int .i64 0] w fun e w' => e = .returned (.bool (isP p)) ∧ Below w.heap.size w w' := by
  have hk := fun W => Kind_any W p hp
  unfold isP
  generalize kindS p = r at hk
  obtain ⟨a, b⟩ := r
  dsimp only at hk ⊢
  by_cases h0 : b = 0
  · subst h0
    have HK := Aside0.mk hk
    clear hk
    go_enter Tryd.func75, Tryd.ntmps75
    go_wp2_with fail
    refine (HK.out _).mono ?_
    rintro e w1 ⟨rfl, hb⟩
    go_wp2_with fail
    go_ret
    exact ⟨rfl, hb⟩
  · have h1 : (b == 0) = false := beq_eq_false_iff_ne.mpr h0
    rw [h1]
    have HK := Aside0.mk hk
    clear hk h0
    go_enter Tryd.func75, Tryd.ntmps75
    go_wp2_with fail
    refine (HK.out _).mono ?_
    rintro e w1 ⟨rfl, hb⟩
    go_wp2_with fail
    go_ret
    exact ⟨rfl, hb⟩
def path_Kind.f (p : ByteArray) : Option (Int × Int) := if p.size ≤ 65536 then some (kindS p) else none
theorem path_Kind.calls (a0 : ByteArray) (r1 : Int) (r2 : Int) (w : World) (h : path_Kind.f a0 = some (r1, r2)) :
    Calls Tryd.prog 47 #[.string a0] w fun e w' => e = .returned (.tuple #[.int .i64 r1, .int .i64 r2]) ∧ Below w.heap.size w w' := by
  unfold path_Kind.f at h
  split at h
  · rename_i hs
    injection h with h
    have k := Kind_any w a0 hs
    rw [h] at k
    exact k
  · simp at h
attribute [local go_sem] max2_int max_two
/-- The text ahead of the last / (of a text that has none: nothing). -/
def parB (p : ByteArray) : ByteArray := p.extract 0 (max (lastIndexByte p 47) 0).toNat
def parS (p : ByteArray) : ByteArray × Bool := if p.size = 0 ∨ isP p = false then (⟨#[]⟩, false) else (parB p, true)
theorem last_le (p : ByteArray) : -1 ≤ lastIndexByte p 47 ∧ lastIndexByte p 47 ≤ (p.size : Int) := by
  unfold lastIndexByte
  rcases lastIdx_spec p 47 p.size with ⟨e, _⟩ | ⟨i, hi, e, _, _⟩
  · rw [e]; omega
  · rw [e]; omega
set_option maxHeartbeats 1000000 in
theorem Parent_any (w : World) (p : ByteArray) (hp : p.size ≤ 65536) : Calls Tryd.prog 102 #[.string p] w fun e w' => e = .returned (.tuple #[.string (parS p).1, .bool (parS p).2]) ∧ Below w.heap.size w w' := by
  unfold parS
  have his := fun W => is_any W p hp
  have hle := last_le p
  have hli := fun W => Any.strings_LastIndexByte layLastIdx p 47 (by omega) W
  change ∀ W, Calls Tryd.prog 76 _ W _ at hli
  by_cases h0 : p.size = 0
  · rw [if_pos (.inl h0)]
    have hz := (size_zero_list p).2 h0
    have hz1 : (p.toList == []) = true := by rw [hz]; rfl
    clear h0 hz his hli
    go_enter Tryd.func102, Tryd.ntmps102
    go_wp2_with fail
    go_ret2
    exact ⟨rfl, bel _ _⟩
  · have hz1 : (p.toList == []) = false := beq_eq_false_iff_ne.mpr (fun e => h0 ((size_zero_list p).1 e))
    cases hb : isP p with
    | false =>
      rw [if_pos (.inr rfl)]
      rw [hb] at his
      have HI := Aside0.mk his
      clear his hli hb h0
      go_enter Tryd.func102, Tryd.ntmps102
      go_wp2_with fail
      refine (HI.out _).mono ?_
      rintro e w1 ⟨rfl, hb⟩
      go_wp2_with fail
      go_ret2
      exact ⟨rfl, hb⟩
    | true =>
      rw [if_neg (fun h => h.elim h0 (fun e => by cases e))]
      rw [hb] at his
      unfold parB
      generalize lastIndexByte p 47 = z at hle hli
      have HI := Aside0.mk his
      have HL := Aside0.mk hli
      have hle1 := hle.1
      have hle2 := hle.2
      clear his hli hb h0 hle
      by_cases hz : z < 0
      · rw [show max z 0 = 0 by omega, show p.extract 0 (Int.toNat 0) = ByteArray.empty by simp]
        have hp0 : (0 : Int) ≤ p.size := by omega
        go_enter Tryd.func102, Tryd.ntmps102
        go_wp2_with fail
        refine (HI.out _).mono ?_
        rintro e w1 ⟨rfl, hb⟩
        go_wp2_with fail
        refine (HL.out _).mono ?_
        rintro e w2 ⟨rfl, rfl⟩
        go_wp2_with fail
        go_ret2
        exact ⟨rfl, hb⟩
      · rw [show max z 0 = z by omega]
        have hz' : 0 ≤ z := by omega
        go_enter Tryd.func102, Tryd.ntmps102
        go_wp2_with fail
        refine (HI.out _).mono ?_
        rintro e w1 ⟨rfl, hb⟩
        go_wp2_with fail
        refine (HL.out _).mono ?_
        rintro e w2 ⟨rfl, rfl⟩
        go_wp2_with fail
        go_ret2
        exact ⟨rfl, hb⟩
end Go.Proofs.YtjllbkeobibnkaaDoor.Q

namespace Go.Proofs.YtjllbkeobibnkaaDoor.Q
open Go Go.Proofs Go.Shelf Go.RowKit Go.Lib Go.Sort Go.Proofs.YtjllbkeobibnkaaDoorP Go.Proofs.YtjllbkeobibnkaaDoorK Go.Proofs.YtjllbkeobibnkaaDoorW.PrintWords Go.Proofs.YtjllbkeobibnkaaDoorW.PrintLast Go.Proofs.YtjllbkeobibnkaaDoorW.PrintMore
attribute [local go_sem] Oper.semAt_some
set_option linter.unusedSimpArgs false
set_option linter.unusedVariables false
/-! ### path.Ups, path.Below -/
def upsN : Nat → ByteArray → List ByteArray
  | 0, _ => []
  | n + 1, p => if (parS p).2 = true then (parS p).1 :: upsN n (parS p).1 else []
/-- All directories that a path lies in. -/
def ups (p : ByteArray) : List ByteArray := upsN (p.size + 1) p
theorem parS_size {p : ByteArray} (h : (parS p).2 = true) : (parS p).1.size < p.size := by
  unfold parS at h ⊢
  split at h
  · cases h
  · rename_i hc
    rw [if_neg hc]
    have h0 : p.size ≠ 0 := fun e => hc (.inl e)
    have hl := last_le p
    show (parB p).size < p.size
    unfold parB
    rw [ByteArray.size_extract]
    unfold lastIndexByte
    rcases lastIdx_spec p 47 p.size with ⟨e, _⟩ | ⟨i, hi, e, _, _⟩
    · rw [e]; omega
    · rw [e]; omega
theorem upsN_more (n : Nat) : ∀ (m : Nat) (p : ByteArray), p.size < n → p.size < m → upsN n p = upsN m p := by
  induction n with
  | zero => intro m p h; omega
  | succ n ih =>
    intro m p h1 h2
    cases m with
    | zero => omega
    | succ m =>
      unfold upsN
      split
      · rename_i h
        have := parS_size h
        rw [ih m (parS p).1 (by omega) (by omega)]
      · rfl
theorem ups_eq (p : ByteArray) : ups p = if (parS p).2 = true then (parS p).1 :: ups (parS p).1 else [] := by
  unfold ups
  rw [upsN]
  split
  · rename_i h
    have := parS_size h
    rw [upsN_more p.size ((parS p).1.size + 1) _ this (by omega)]
  · rfl
/-- What is still to be told, behind (up, ok). -/
def restU (up : ByteArray) (ok : Bool) : List ByteArray := if ok = true then up :: ups up else []
theorem ups_rest (p : ByteArray) : ups p = restU (parS p).1 (parS p).2 := ups_eq p
def szOf : Value → Nat
  | .string s => s.size
  | _ => 0
def okOf : Value → Nat
  | .bool true => 1
  | _ => 0
theorem ups_in (F : Fence) (n : Nat) (hf : F.fn 89) (hro : F.round = none) (p : ByteArray) (w : World) :
    CallsIn F n Tryd.prog 89 #[.string p] w fun e w' => e = .returned (.func (.func 101) #[] #[.pointer (some ⟨w.heap.size, 0, none⟩)]) ∧ w' = w.alloc (.cells #[.string p] 9) := by
  refine callsIn_of_wp Tryd.func89 rfl hf ?_ hro
  simp only [Tryd.ntmps89, List.size_toArray, List.length_cons, List.length_nil, Nat.reduceAdd, Nat.reduceSub, Array.replicate_succ, Array.replicate_zero, List.push_toArray, List.append_toArray, List.nil_append, List.cons_append]
  gi_wp2
  go_ret
  exact ⟨rfl, rfl⟩
set_option maxRecDepth 100000 in
set_option maxHeartbeats 4000000 in
theorem ups1_in (n : Nat) (hn : 1 ≤ n) (l B : Nat) (p : ByteArray) (hp : p.size ≤ 65536) (J Jx : List ByteArray → World → Prop)
    (hY : ∀ pre x W, J pre W → pre.length < (ups p).length → YieldAt Fence.wide (n - 1) Tryd.prog l #[.string x] W fun e W' =>
      (e = .returned (.bool true) ∧ J (pre ++ [x]) W' ∧ True) ∨ (e = .returned (.bool false) ∧ Jx (pre ++ [x]) W'))
    (W : World) (b1 : Boxed W B 9 (.string p)) (hJ : AbidesFrom W.heap.size J) (h0 : J [] W) :
    CallsIn Fence.wide n Tryd.prog 101 #[.func (.yield l) #[] #[], .pointer (some ⟨B, 0, none⟩)] W fun e W' => (∃ v, e = .returned v) ∧
      ((∃ ys, ys = ups p ∧ J ys W') ∨ (∃ pre, pre <+: ups p ∧ Jx pre W')) := by
  have c1 := b1.cell
  have hja : ∀ s X Y, J s X → Below X.heap.size X Y → J s Y := fun s X Y h hb => hJ s X Y none h ⟨hb.os, hb.tape, hb.output, hb.size, fun k hk _ => hb.block k hk⟩ (fun r e => by cases e)
  have HJA := Aside0.mk hja
  have HY := Aside0.mk hY
  clear hja hJ hY
  have hpar := fun W q (hq : q.size ≤ 65536) => (callsIn_wide (n := n - 1)).2 (Parent_any W q hq)
  have HPAR := Aside0.mk hpar
  have HP := Aside0.mk hp
  clear hpar hp
  refine callsIn_of_wp Tryd.func101 rfl trivial ?_ rfl
  simp only [Tryd.ntmps101, List.size_toArray, List.length_cons, List.length_nil, Nat.reduceAdd, Nat.reduceSub, Array.replicate_succ, Array.replicate_zero, List.push_toArray, List.append_toArray, List.nil_append, List.cons_append]
  gi_wp2_with fail
  refine ⟨trivial, (HPAR.out _ _ HP.out).mono ?_⟩
  rintro e W1 ⟨rfl, hb1⟩
  have h1 := HJA.out _ _ _ h0 hb1
  clear h0
  have hsz : (parS p).2 = true → (parS p).1.size ≤ 65536 := fun h => by have := parS_size h; have := HP.out; omega
  have HU := Aside0.mk (ups_rest p)
  generalize parS p = r at HU hsz
  obtain ⟨up, ok⟩ := r
  dsimp only at HU hsz
  have HSZ := Aside0.mk hsz
  clear hsz hb1 c1
  gi_wp2_with fail
  gi_loopw [3, 4] (fun u o wr => ∃ pre up ok, u = .string up ∧ o = .bool ok ∧ J pre wr ∧ Aside0 (ups p = pre ++ restU up ok) ∧ Aside0 (ok = true → up.size ≤ 65536)) (fun u o _ => okOf o * (szOf u + 1))
  case atStart => exact ⟨[], up, ok, rfl, rfl, h1, HU, HSZ⟩
  case round =>
    clear HU HSZ h1
    obtain ⟨pre, up, ok, rfl, rfl, hJs, HU, HSZ⟩ := hrel
    cases ok with
    | true =>
      have hu := HU.out
      unfold restU at hu
      rw [if_pos rfl] at hu
      have hlen : pre.length < (ups p).length := by rw [hu, List.length_append, List.length_cons]; omega
      obtain ⟨fn, tmps, assign, body, hy, hR⟩ := HY.out _ up _ hJs hlen
      have hpre : pre ++ [up] <+: ups p := ⟨ups up, by rw [hu]; simp⟩
      have HPRE := Aside0.mk hpre
      have hu2 : ups p = (pre ++ [up]) ++ restU (parS up).1 (parS up).2 := by rw [hu, ups_rest up]; simp
      have hsz2 : (parS up).2 = true → (parS up).1.size < up.size := parS_size
      have hups := HSZ.out rfl
      have HPU := Aside0.mk (HPAR.out · up hups)
      generalize parS up = r at hu2 hsz2 HPU
      obtain ⟨up2, ok2⟩ := r
      dsimp only at hu2 hsz2 HPU
      have HU2 := Aside0.mk hu2
      have HZ2 := Aside0.mk hsz2
      have HUP := Aside0.mk hups
      clear hu hu2 HU hlen hpre hsz2 HSZ hups
      gi_wp2_with fail
      refine hR.mono ?_
      rintro e W3 (⟨rfl, hJ3, _⟩ | ⟨rfl, hJx3⟩)
      · gi_wp2_with fail
        refine ⟨trivial, (HPU.out _).mono ?_⟩
        rintro e W4 ⟨rfl, hb4⟩
        have hJ4 := HJA.out _ _ _ hJ3 hb4
        clear hb4
        gi_wp2_with fail
        go_roundw
        case rel => exact ⟨pre ++ [up], up2, ok2, rfl, rfl, hJ4, HU2, ⟨fun h => by have := HZ2.out h; have := HUP.out; omega⟩⟩
        case measure =>
          cases ok2 with
          | true => have := HZ2.out rfl; simp [okOf, szOf]; omega
          | false => simp [okOf, szOf]
      · gi_wp2_with fail
        refine bodyPost_ret (results_none rfl _ _ _) rfl ?_
        exact ⟨⟨_, rfl⟩, .inr ⟨_, HPRE.out, hJx3⟩⟩
    | false =>
      have hu := HU.out
      unfold restU at hu
      rw [if_neg (by decide), List.append_nil] at hu
      have HU := Aside0.mk hu
      clear hu
      gi_wp2_with fail
      go_end0
      exact ⟨⟨_, rfl⟩, .inl ⟨_, rfl, by rw [HU.out]; exact hJs⟩⟩
theorem ups_stops (n : Nat) (hn : 1 ≤ n) (B : Nat) (p : ByteArray) (hp : p.size ≤ 65536) (w1 : World) (b1 : Boxed w1 B 9 (.string p)) :
    SeqStopsK Fence.wide n Tryd.prog 101 #[.pointer (some ⟨B, 0, none⟩)] (fun x : ByteArray => #[.string x]) (fun _ _ => True) (fun ys => ys = ups p) (fun pre => pre <+: ups p) (ups p).length w1 := fun l J Jx W hW hJ hJx hY h0 =>
  ups1_in n hn l B p hp J Jx hY W ((hW.block _ b1.lt).trans b1) hJ h0
/-- Does a path lie in a directory? -/
def belowS (d p : ByteArray) : Bool := (ups p).any fun u => u.toList == d.toList
set_option maxRecDepth 100000 in
set_option maxHeartbeats 4000000 in
theorem below_in (n : Nat) (hn : 5 ≤ n) (d p : ByteArray) (hp : p.size ≤ 65536) (w : World) :
    CallsIn Fence.wide n Tryd.prog 74 #[.string d, .string p] w fun e W' => e = .returned (.bool (belowS d p)) ∧ Below w.heap.size w W' := by
  have h1 : 1 ≤ n := by omega
  have hro : Fence.wide.round = none := rfl
  refine callsIn_of_wp_marks Tryd.func74 rfl trivial ?_ hro
  simp only [Tryd.ntmps74, List.size_toArray, List.length_cons, List.length_nil, Nat.reduceAdd, Nat.reduceSub, Array.replicate_succ, Array.replicate_zero, List.push_toArray, List.append_toArray, List.nil_append, List.cons_append]
  gi_wp2_with fail
  refine ⟨trivial, (ups_in Fence.wide (n - 1) trivial hro _ _).mono ?_⟩
  rintro e w' ⟨rfl, rfl⟩
  gi_wp2_with fail
  obtain ⟨Z, hZ⟩ : ∃ Z, Z = (w.alloc (.cells #[.string d] 9)).alloc (.cells #[.bool false] 4) := ⟨_, rfl⟩
  have bR := (Boxed.new w 9 (.string d)).alloc (.cells #[.bool false] 4)
  have bQ := Boxed.new (w.alloc (.cells #[.string d] 9)) 4 (.bool false)
  have hB0 : Below w.heap.size w Z := by rw [hZ]; exact ((Below.refl _ w).alloc (Nat.le_refl _) _).alloc (by simp) _
  have hsz : Z.heap.size = w.heap.size + 1 + 1 := by rw [hZ]; simp
  rw [World.size_alloc] at bQ
  rw [← hZ] at bR bQ ⊢
  clear hZ
  have b1 := Boxed.new Z 9 (.string p)
  rw [hsz] at b1
  replace hB0 := hB0.alloc (by omega) (.cells #[.string p] 9)
  replace bR := bR.alloc (.cells #[.string p] 9)
  replace bQ := bQ.alloc (.cells #[.string p] 9)
  have hszW : (Z.alloc (.cells #[.string p] 9)).heap.size = w.heap.size + 3 := by simp; omega
  obtain ⟨W0, hW0⟩ : ∃ W0, Z.alloc (.cells #[.string p] 9) = W0 := ⟨_, rfl⟩
  rw [hW0] at b1 bR bQ hB0 hszW ⊢
  clear hW0
  refine wpIn_rangeFunc_ownH hro h1 (gf := 101) (lb := #[.pointer (some ⟨(w.heap.size + 1 + 1), 0, none⟩)]) rfl trivial (enters_of Tryd.func101 (by kernel_rfl) rfl)
    (ups_stops (n - 1) (by omega) (w.heap.size + 1 + 1) p hp W0 b1) (fun _ _ => trivial) (fun _ _ _ _ _ _ _ _ => trivial) (Below.refl _ _) (fun _ => rfl)
    (fun pre W => ((pre.any (fun u => u.toList == d.toList) = false ∧ Boxed W w.heap.size 9 (.string d)) ∧ Boxed W (w.heap.size + 1) 4 (.bool false)) ∧ Below w.heap.size w W)
    (fun c pre W => ((c = .ret ∧ pre.any (fun u => u.toList == d.toList) = true) ∧ Boxed W (w.heap.size + 1) 4 (.bool true)) ∧ Below w.heap.size w W)
    (OwnFrom.and (OwnFrom.and (OwnFrom.and (ownFrom_pure _ _) (Own.from (boxed_own _ _ _) _)) (Own.from (boxed_own _ _ _) _)) (ownFrom_below (Nat.le_refl _) (by omega)))
    (fun c => OwnFrom.and (OwnFrom.and (ownFrom_pure _ _) (Own.from (boxed_own _ _ _) _)) (ownFrom_below (Nat.le_refl _) (by omega)))
    ⟨⟨⟨rfl, bR⟩, bQ⟩, hB0⟩
    (fun x a' W => a' = { tmps := #[.string d, .string p, .pointer (some ⟨w.heap.size, 0, none⟩), undef, .pointer (some ⟨w.heap.size + 1, 0, none⟩), .string x, .string p, .func (.func 101) #[] #[.pointer (some ⟨(w.heap.size + 1 + 1), 0, none⟩)], .string x, undef, undef, undef], defers := [] })
    (fun x a' _ X Y row hs hg hr => hs)
    ?assign ?body ?done ?stop
  case assign =>
    rintro l pre x W K ⟨⟨⟨hpre, bR1⟩, bB1⟩, hB1⟩ hK
    simp only at hK ⊢
    gi_wp2
    exact hK _ _ ((KeepsOthers.refl _).from _) trivial ⟨⟨⟨hpre, bR1⟩, bB1⟩, hB1⟩ rfl
  case body =>
    rintro l pre x a' W hl ⟨r, hr⟩ ⟨⟨⟨hpre, bR1⟩, bB1⟩, hB1⟩ rfl hlt
    have cR := bR1.cell
    have fR := bR1.frozen
    have cB := bB1.cell
    have fB := bB1.frozen
    cases hx : (x.toList == d.toList) with
    | true =>
      have HX : Aside0 ((pre ++ [x]).any (fun u => u.toList == d.toList) = true) := ⟨by simp [hx]⟩
      clear hpre
      gi_wp2
      exact ⟨(KeepsOthers.setCell _ _ _).from _, ⟨⟨by first | rfl | trivial, HX.out⟩, bB1.set _⟩, hB1.setCell (p := ⟨w.heap.size + 1, 0, none⟩) (by simp) _⟩
    | false =>
      have HX : Aside0 ((pre ++ [x]).any (fun u => u.toList == d.toList) = false) := ⟨by rw [List.any_append, hpre]; simp [hx]⟩
      clear hpre
      gi_wp2
      exact ⟨((KeepsOthers.refl _).from _), trivial, ⟨⟨HX.out, bR1⟩, bB1⟩, hB1⟩
  case done =>
    rintro D zs W hD rfl ⟨⟨⟨hp, bR1⟩, bB1⟩, hB1⟩ hK
    have HP := Aside0.mk hp
    clear hp
    have cB := bB1.cell
    have fB := bB1.frozen
    gi_wp2
    have hK' := (KeepsOthers.setCell W ⟨w.heap.size + 1, 0, none⟩ (.bool false)).same D _ hK rfl
    refine ⟨by simp, .inl ⟨_, _, rfl, run_takeDeferred hK', ?_⟩⟩
    have hc5 := cell_kept (bB1.set (.bool false)).cell (grownBy_putObj' _ D (.deferred none)) (fun r e => by cases e; exact ⟨_, hK', rfl⟩)
    refine ⟨.bool false, ?_, by unfold belowS; rw [HP.out], (hB1.setCell (p := ⟨w.heap.size + 1, 0, none⟩) (by simp) _).trans (belowK_b (w := w) (Nat.le_refl _) _ D _ _ (by omega) hK' rfl rfl)⟩
    simp [results, Tryd.f74, go_sem, hc5]
  case stop =>
    rintro D c pre W hD hpre ⟨⟨⟨rfl, hne⟩, bB1⟩, hB1⟩ hK
    have HP := Aside0.mk hne
    clear hne
    gi_wp2
    refine ⟨by simp, .inl ⟨_, _, rfl, run_takeDeferred hK, ?_⟩⟩
    have hc5 := cell_kept bB1.cell (grownBy_putObj' _ D (.deferred none)) (fun r e => by cases e; exact ⟨_, hK, rfl⟩)
    refine ⟨.bool true, ?_, ?_, hB1.trans (belowK_b (w := w) (Nat.le_refl _) W D _ _ (by omega) hK rfl rfl)⟩
    · simp [results, Tryd.f74, go_sem, hc5]
    · obtain ⟨u, hu⟩ := hpre
      unfold belowS
      rw [← hu, List.any_append, HP.out, Bool.true_or]
theorem Below_any (w : World) (d p : ByteArray) (hp : p.size ≤ 65536) :
    Calls Tryd.prog 74 #[.string d, .string p] w fun e w' => e = .returned (.bool (belowS d p)) ∧ Below w.heap.size w w' :=
  callsIn_wide.1 (below_in 5 (Nat.le_refl _) d p hp w)
def path_Below.f (d p : ByteArray) : Option Bool := if p.size ≤ 65536 then some (belowS d p) else none
theorem path_Below.calls (a0 : ByteArray) (a1 : ByteArray) (r : Bool) (w : World) (h : path_Below.f a0 a1 = some r) :
    Calls Tryd.prog 74 #[.string a0, .string a1] w fun e w' => e = .returned (.bool r) ∧ Below w.heap.size w w' := by
  unfold path_Below.f at h
  split at h
  · rename_i hs
    injection h with h
    subst h
    exact Below_any w a0 a1 hs
  · simp at h
end Go.Proofs.YtjllbkeobibnkaaDoor.Q

namespace Go.Proofs.YtjllbkeobibnkaaDoorK
open Go Go.RowKit Go.Proofs.YtjllbkeobibnkaaDoorW.PrintWords Go.Proofs.YtjllbkeobibnkaaDoorW.PrintLast
/-! A whole box is written, in a region that draws its order. -/
theorem box_skip {P : Program} {ops : Array Oper} {oi : Oper} {a : Act} {W : World} {K : Act → World → Prop} {Q : Exit → Act → World → Prop} (hw : Region.wanted oi (yielded ops a.tmps) = true) (hN : oi.dst = none) (ty : TypeId) (x y : Operand) (ho : oi.op = .store ty x y)
    {g : Nat} {t : TypeId} {old : Array Value} (hg : W.heap[g]? = some (.cells old t (0, 0))) (cells : Array Value) (hx : a.eval x = .pointer (some ⟨g, 0, none⟩)) (hy : a.eval y = .agg cells)
    (hi : (P.info? ty).map (·.size) = some cells.size) (hold : old.size = cells.size) (h1 : cells.toList.all (·.oneCell') = true)
    (h : ∀ w1, w1.heap[g]? = some (.cells cells t (0, 0)) → W.grownBy w1 (some g) → K a w1) : if Region.wanted oi (yielded ops a.tmps) = true then Oper.wp P oi a W K Q else K (a.put none undef) W := by
  rw [if_pos hw]
  refine wp_store_row ty x y ho g cells hx hy t old hg hi hold (by rw [← Array.all_toList]; exact h1) ?_
  rw [hN]
  exact h _ (setRow_heap W g old cells t (0, 0) hg) (grown_setRow W g cells)
end Go.Proofs.YtjllbkeobibnkaaDoorK

namespace Go.Proofs.YtjllbkeobibnkaaDoor.Q
open Go Go.Proofs Go.Shelf Go.RowKit Go.Lib Go.Sort Go.Proofs.YtjllbkeobibnkaaDoorP Go.Proofs.YtjllbkeobibnkaaDoorK Go.Proofs.YtjllbkeobibnkaaDoorW.PrintWords Go.Proofs.YtjllbkeobibnkaaDoorW.PrintLast Go.Proofs.YtjllbkeobibnkaaDoorW.PrintMore
set_option linter.unusedSimpArgs false
set_option linter.unusedVariables false
/-! ### path.Compare -/
theorem strcmp_c (W : World) (a b : ByteArray) : Calls Tryd.prog 81 #[.string a, .string b] W fun e w' => e = .returned (.int .i64 (Lib.compareBytes a.data.toList b.data.toList)) ∧ w' = W := Any.strings_Compare layStrCmp a b W
theorem intcmp_c (W : World) (a b : Int) : Calls Tryd.prog 82 #[.int .i64 a, .int .i64 b] W fun e w' => e = .returned (.int .i64 (Lib.compareInt a b)) ∧ w' = W := AnyG.cmp_Compare_int layIntCmp a b W
theorem min2_mn (k k' : IntKind) (x y : Int) : Builtin.min2 (.int k x) (.int k' y) = pure (.int k (mn x y)) := by
  rw [min2_int]
  unfold mn
  rfl
attribute [local go_sem ↓] Go.Proofs.YtjllbkeobibnkaaDoorK.isSome_setCell
attribute [local go_sem] min2_mn min_two cell_held frozen_held
theorem lex_end {α : Type} (f : α → α → Int) (x y : List α) (k : Nat) (hx : k ≤ x.length) (hy : k ≤ y.length) (h : k = x.length ∨ k = y.length) : lexC f (x.drop k) (y.drop k) = Lib.compareInt x.length y.length := by
  unfold Lib.compareInt
  by_cases h1 : k = x.length
  · rw [List.drop_of_length_le (show x.length ≤ k by omega)]
    by_cases h2 : k = y.length
    · rw [List.drop_of_length_le (show y.length ≤ k by omega), if_neg (by omega), if_neg (by omega)]
      rfl
    · rw [List.drop_eq_getElem_cons (show k < y.length by omega), if_pos (by omega)]
      rfl
  · rw [List.drop_of_length_le (show y.length ≤ k by omega), List.drop_eq_getElem_cons (show k < x.length by omega), if_neg (by omega), if_pos (by omega)]
    rfl
def pcmpR.T5 : Bool × List (List Nat × List Nat) := (true, [([], []), ([], []), ([0, 1], [0, 1]), ([2], [2]), ([], []), ([], []), ([4, 5], [4, 5]), ([6], [6]), ([3, 7], [3, 7]), ([8, 8, 0, 1, 2, 3, 4, 5, 6, 7, 8], [8])])
def pcmpR.B5 : List Nat := [0, 0, 3, 7, 0, 0, 48, 112, 255, 511]
theorem pcmpR.tab5 : rtab .any (opsOf Tryd.f61 5) = pcmpR.T5 := by kernel_rfl
theorem pcmpR.bits5 : waitsOk pcmpR.T5.2 pcmpR.B5 = true := by kernel_rfl
theorem drewN_drew (W : World) (q : Nat) : (W.drewN q).drew = W.drewN (q + 1) := rfl
theorem two_grow (W : World) (o1 o2 : Obj) (q : Nat) : ((W.alloc o1).alloc o2).drewN q = grow (W.drewN q) #[o1, o2] := by
  have h : ((W.alloc o1).alloc o2).drewN q = ((W.drewN q).alloc o1).alloc o2 := rfl
  rw [h, alloc_eq_grow, alloc_eq_grow, grow_grow]
  rfl
set_option maxRecDepth 100000 in
set_option maxHeartbeats 2000000 in
theorem cmp_any (w : World) (a b : ByteArray) (ha : a.size < 4294967281) (hb : b.size < 4294967281) :
    Calls Tryd.prog 61 #[.string a, .string b] w fun e w' => e = .returned (.int .i64 (pcmp a b)) ∧ ∃ q os, w' = grow (w.drewN q) os := by
  have hsa := fun W => split_c W a ha
  have hsb := fun W => split_c W b hb
  have HSA := Aside0.mk hsa
  have HSB := Aside0.mk hsb
  clear hsa hsb ha hb
  go_enter Tryd.func61, Tryd.ntmps61
  go_wp2_with fail
  refine (HSA.out _).mono ?_
  rintro e w1 ⟨lA, hA, nA, rfl, rfl⟩
  go_wp2_with fail
  refine (HSB.out _).mono ?_
  rintro e w2 ⟨lB, hB, nB, rfl, rfl⟩
  obtain ⟨r, hpr⟩ : ∃ r, pcmp a b = r := ⟨_, rfl⟩
  have hr : Aside0 (cmpN (lA.map (·.data.toList)) (lB.map (·.data.toList)) = r) := ⟨by rw [hA.out, hB.out]; exact hpr⟩
  have HPR := Aside0.mk hpr
  clear hpr
  go_wp2_with fail
  generalize hm : mn (lA.length : Int) (lB.length : Int) = m
  have hm1 : m ≤ lA.length ∧ m ≤ lB.length ∧ (m = lA.length ∨ m = lB.length) := by unfold mn at hm; split at hm <;> omega
  clear hm
  go_loopw [18] (fun i wr => ∃ k q : Nat, (k : Int) ≤ m ∧ i = .int .i64 (k : Int) ∧ Aside0 (cmpN ((lA.drop k).map (·.data.toList)) ((lB.drop k).map (·.data.toList)) = r) ∧ Aside0 (wr = ((w.alloc (.cells (lA.map Value.string).toArray 9)).alloc (.cells (lB.map Value.string).toArray 9)).drewN q)) (fun i _ => m.toNat - (RowKit.intOf i).toNat)
  case atStart => exact ⟨0, 0, by omega, rfl, hr, ⟨rfl⟩⟩
  case round =>
    obtain ⟨k, q, hk, rfl, HR, HW⟩ := hrel
    have hw := HW.out
    subst hw
    clear HW
    by_cases hlt : (k : Int) < m
    · have hka : k < lA.length := by omega
      have hkb : k < lB.length := by omega
      have hR := HR.out
      rw [List.drop_eq_getElem_cons hka, List.drop_eq_getElem_cons hkb, List.map_cons, List.map_cons] at hR
      have hsc := fun W => strcmp_c W lA[k] lB[k]
      simp only [cmpN, lexC] at hR
      generalize Lib.compareBytes lA[k].data.toList lB[k].data.toList = c at hR hsc
      have HSC := Aside0.mk hsc
      clear hsc
      go_wp2_with fail
      refine start_ (n := 10) (S := fun w' => w'.heap[w.heap.size]? = some (.cells (lA.map Value.string).toArray 9 (0, 0)) ∧ w'.heap[w.heap.size + 1]? = some (.cells (lB.map Value.string).toArray 9 (0, 0))) (ds := []) #[false, false, false, false, false, false, false, false, false, false] (by kernel_rfl) rfl rfl ⟨held, held⟩ (fun hHeld => ?_); refine with_tabW pcmpR.tab5 pcmpR.bits5 (fun HT_ HW_ => ?_)
      refine pure_ (i := 0) (N := some 21) (v := ?_) (a' := ?_) #[true, false, false, false, false, false, false, false, false, false] rfl rfl (any_of HT_.out (by kernel_rfl)) (fun _ _ _ h => h) (Or.inl ⟨by rfl, ?_⟩) ?_ ?_
      rotate_left
      · intro w'
        go_simp
        with_reducible rfl
      rotate_left
      · simp only [Act.put, List.setIfInBounds_toArray, List.set_cons_zero, List.set_cons_succ, i64_w, i32_w]
        rfl
      refine pure_ (i := 1) (N := some 22) (v := ?_) (a' := ?_) #[true, true, false, false, false, false, false, false, false, false] rfl rfl (any_of HT_.out (by kernel_rfl)) (fun _ _ _ h => h) (Or.inl ⟨by rfl, ?_⟩) ?_ ?_
      rotate_left
      · intro w'
        go_simp
        with_reducible rfl
      rotate_left
      · simp only [Act.put, List.setIfInBounds_toArray, List.set_cons_zero, List.set_cons_succ, i64_w, i32_w]
        rfl
      refine pure_ (i := 2) (N := some 23) (v := ?_) (a' := ?_) #[true, true, true, false, false, false, false, false, false, false] rfl rfl (any_of HT_.out (by kernel_rfl)) (fun _ _ _ h => h) (Or.inl ⟨by rfl, ?_⟩) ?_ ?_
      rotate_left
      · intro w'
        go_simp
        with_reducible rfl
      rotate_left
      · simp only [Act.put, List.setIfInBounds_toArray, List.set_cons_zero, List.set_cons_succ, i64_w, i32_w]
        rfl
      refine pure_ (i := 4) (N := some 25) (v := ?_) (a' := ?_) #[true, true, true, false, true, false, false, false, false, false] rfl rfl (any_of HT_.out (by kernel_rfl)) (fun _ _ _ h => h) (Or.inl ⟨by rfl, ?_⟩) ?_ ?_
      rotate_left
      · intro w'
        go_simp
        with_reducible rfl
      rotate_left
      · simp only [Act.put, List.setIfInBounds_toArray, List.set_cons_zero, List.set_cons_succ, i64_w, i32_w]
        rfl
      refine pure_ (i := 5) (N := some 26) (v := ?_) (a' := ?_) #[true, true, true, false, true, true, false, false, false, false] rfl rfl (any_of HT_.out (by kernel_rfl)) (fun _ _ _ h => h) (Or.inl ⟨by rfl, ?_⟩) ?_ ?_
      rotate_left
      · intro w'
        go_simp
        with_reducible rfl
      rotate_left
      · simp only [Act.put, List.setIfInBounds_toArray, List.set_cons_zero, List.set_cons_succ, i64_w, i32_w]
        rfl
      refine pure_ (i := 6) (N := some 27) (v := ?_) (a' := ?_) #[true, true, true, false, true, true, true, false, false, false] rfl rfl (any_of HT_.out (by kernel_rfl)) (fun _ _ _ h => h) (Or.inl ⟨by rfl, ?_⟩) ?_ ?_
      rotate_left
      · intro w'
        go_simp
        with_reducible rfl
      rotate_left
      · simp only [Act.put, List.setIfInBounds_toArray, List.set_cons_zero, List.set_cons_succ, i64_w, i32_w]
        rfl
      refine take_ (i := 3) (N := some 24) (v := ?_) (a' := ?_) #[true, true, true, true, true, true, true, false, false, false] rfl rfl (take_ofW HT_.out HW_.out (by kernel_rfl)) (fun _ _ _ h => h) (Or.inl ⟨by rfl, ?_⟩) hHeld ?_ ?_
      rotate_left
      · rintro w' ⟨s0, s1⟩
        have i0 : Holds w' w.heap.size (.cells (lA.map Value.string).toArray 9) := ⟨s0⟩
        have i1 : Holds w' (w.heap.size + 1) (.cells (lB.map Value.string).toArray 9) := ⟨s1⟩
        go_simp
        with_reducible rfl
      rotate_left
      · simp only [Act.put, List.setIfInBounds_toArray, List.set_cons_zero, List.set_cons_succ, i64_w, i32_w]
        rfl
      refine take_ (i := 7) (N := some 28) (v := ?_) (a' := ?_) #[true, true, true, true, true, true, true, true, false, false] rfl rfl (take_ofW HT_.out HW_.out (by kernel_rfl)) (fun _ _ _ h => h) (Or.inl ⟨by rfl, ?_⟩) hHeld ?_ ?_
      rotate_left
      · rintro w' ⟨s0, s1⟩
        have i0 : Holds w' w.heap.size (.cells (lA.map Value.string).toArray 9) := ⟨s0⟩
        have i1 : Holds w' (w.heap.size + 1) (.cells (lB.map Value.string).toArray 9) := ⟨s1⟩
        go_simp
        with_reducible rfl
      rotate_left
      · simp only [Act.put, List.setIfInBounds_toArray, List.set_cons_zero, List.set_cons_succ, i64_w, i32_w]
        rfl
      refine one_ (i := 8) (N := some 29) #[true, true, true, true, true, true, true, true, true, false] rfl rfl (one_of HT_.out (by kernel_rfl)) (by decide) (fun K hK => ?_)
      refine goes_ Tryd.func81 (by kernel_rfl) rfl #[.string lA[k], .string lB[k]] (by rfl) rfl rfl (by (try simp only [List.map_toArray, List.map_cons, List.map_nil]); first | done | rfl) ?_
      refine (HSC.out _).mono ?_
      rintro e1 w1 ⟨rfl, rfl⟩
      refine ⟨_, rfl, ?_⟩
      refine hK.out _ _ ⟨held, held⟩ (fun hHeld => ?_)
      clear hK K
      refine norm_ (a' := ?_) ?_ ?_
      rotate_left
      · show Act.put _ (some 29) _ = _
        simp only [Act.put, List.setIfInBounds_toArray, List.set_cons_zero, List.set_cons_succ, i64_w, i32_w]
        rfl
      refine pure_ (i := 9) (N := some 8) (v := ?_) (a' := ?_) #[true, true, true, true, true, true, true, true, true, true] rfl rfl (any_of HT_.out (by kernel_rfl)) (fun _ _ _ h => h) (Or.inl ⟨by rfl, ?_⟩) ?_ ?_
      rotate_left
      · intro w'
        go_simp
        with_reducible rfl
      rotate_left
      · simp only [Act.put, List.setIfInBounds_toArray, List.set_cons_zero, List.set_cons_succ, i64_w, i32_w]
        rfl
      refine done_ (done_of HT_.out (by kernel_rfl)) ?_
      by_cases h0 : c = 0
      · subst h0
        rw [if_pos rfl] at hR
        have HR' := Aside0.mk hR
        clear hR
        go_wp2_with fail
        go_roundw
        case rel => exact ⟨k + 1, q + 1, by omega, by go_num, HR', ⟨rfl⟩⟩
        case measure => simp [RowKit.intOf]; omega
      · rw [if_neg h0] at hR
        subst hR
        have hz1 : (c != 0) = true := bne_iff_ne.mpr h0
        have hz2 : (c == 0) = false := beq_eq_false_iff_ne.mpr h0
        go_wp2_with fail
        go_ret
        exact ⟨by rw [HPR.out]; rfl, q + 1, _, two_grow _ _ _ (q + 1)⟩
    · have hR := HR.out
      have he := lex_end Lib.compareBytes (lA.map (·.data.toList)) (lB.map (·.data.toList)) k (by simp only [List.length_map]; omega) (by simp only [List.length_map]; omega) (by simp only [List.length_map]; omega)
      unfold cmpN at hR
      rw [List.map_drop, List.map_drop, he] at hR
      simp only [List.length_map] at hR
      have hic := fun W => intcmp_c W lA.length lB.length
      rw [hR] at hic
      have HIC := Aside0.mk hic
      clear hR he hic HR
      go_wp2_with fail
      refine (HIC.out _).mono ?_
      rintro e w3 ⟨rfl, rfl⟩
      go_wp2_with fail
      go_ret
      exact ⟨by rw [HPR.out]; rfl, q, _, two_grow _ _ _ q⟩
theorem grow_below (w : World) (q : Nat) (os : Array Obj) : Below w.heap.size w (grow (w.drewN q) os) := by
  have h : (w.drewN q).heap = w.heap := rfl
  exact ⟨rfl, rfl, rfl, by show w.heap.size ≤ ((w.drewN q).heap ++ os).size; rw [h, Array.size_append]; omega, fun k hk => by show ((w.drewN q).heap ++ os)[k]? = w.heap[k]?; rw [h, Array.getElem?_append_left hk]⟩
def path_Compare.f (a b : ByteArray) : Option Int := if a.size ≤ 65536 ∧ b.size ≤ 65536 then some (pcmp a b) else none
theorem path_Compare.calls (a0 : ByteArray) (a1 : ByteArray) (r : Int) (w : World) (h : path_Compare.f a0 a1 = some r) :
    Calls Tryd.prog 61 #[.string a0, .string a1] w fun e w' => e = .returned (.int .i64 r) ∧ Below w.heap.size w w' := by
  unfold path_Compare.f at h
  split at h
  · rename_i hs
    injection h with h
    subst h
    refine (cmp_any w a0 a1 (by omega) (by omega)).mono ?_
    rintro e w' ⟨rfl, q, os, rfl⟩
    exact ⟨rfl, grow_below _ _ _⟩
  · simp at h
end Go.Proofs.YtjllbkeobibnkaaDoor.Q

namespace Go.Proofs.YtjllbkeobibnkaaDoorP
open Go Go.Lib Go.Sort Go.Proofs
/-! Orders by keys, and what a sort leaves. -/
theorem good_int : Good Lib.compareInt where
  refl x := by simp [Lib.compareInt]
  eq x y h := by unfold Lib.compareInt at h; split at h <;> (try split at h) <;> omega
  lt x y := by unfold Lib.compareInt; split <;> split <;> (try split) <;> omega
  trans x y z h1 h2 := by
    unfold Lib.compareInt at h1 h2 ⊢
    split at h1 <;> split at h2 <;> (try split at h1) <;> (try split at h2) <;> split <;> (try split) <;> omega
theorem good_pair {α β : Type} {f : α → α → Int} {g : β → β → Int} (hf : Good f) (hg : Good g) : Good (fun x y : α × β => if f x.1 y.1 = 0 then g x.2 y.2 else f x.1 y.1) where
  refl x := by simp only [hf.refl, if_true, hg.refl]
  eq x y h := by
    (try simp only at h)
    split at h
    · rename_i h1
      exact Prod.ext (hf.eq _ _ h1) (hg.eq _ _ h)
    · contradiction
  lt x y := by
    have h1 := hf.lt x.1 y.1
    have h2 := hf.lt y.1 x.1
    have h3 := hg.lt x.2 y.2
    (try simp only)
    by_cases h : f x.1 y.1 = 0
    · rw [if_pos h, if_pos (by omega)]
      exact h3
    · rw [if_neg h, if_neg (by omega)]
      exact h1
  trans x y z h1 h2 := by
    (try simp only at h1 h2 ⊢)
    by_cases e1 : f x.1 y.1 = 0
    · rw [if_pos e1] at h1
      have ex := hf.eq _ _ e1
      rw [ex]
      by_cases e2 : f y.1 z.1 = 0
      · rw [if_pos e2] at h2 ⊢
        exact hg.trans _ _ _ h1 h2
      · rw [if_neg e2] at h2 ⊢
        exact h2
    · rw [if_neg e1] at h1
      by_cases e2 : f y.1 z.1 = 0
      · have ey := hf.eq _ _ e2
        rw [← ey, if_neg e1]
        exact h1
      · rw [if_neg e2] at h2
        have h3 := hf.trans _ _ _ h1 h2
        rw [if_neg (by omega)]
        exact h3
/-- By a key: a strict weak order. -/
theorem swo_key {α β : Type} {g : β → β → Int} (h : Good g) (k : α → β) : SWO (ltOf fun x y : α => g (k x) (k y)) where
  irrefl x := by simp [ltOf, h.refl]
  trans x y z h1 h2 := by
    simp only [ltOf, decide_eq_true_eq] at h1 h2 ⊢
    exact h.trans _ _ _ h1 h2
  ntrans x y z h1 h2 := by
    simp only [ltOf, decide_eq_false_iff_not] at h1 h2 ⊢
    intro h3
    have a1 := h.lt (k x) (k y)
    have a2 := h.lt (k y) (k x)
    have b1 := h.lt (k y) (k z)
    have b2 := h.lt (k z) (k y)
    have c1 := h.lt (k x) (k z)
    have c2 := h.lt (k z) (k x)
    by_cases e1 : g (k x) (k y) = 0
    · rw [h.eq _ _ e1] at h3
      exact h2 h3
    · by_cases e2 : g (k y) (k z) = 0
      · rw [← h.eq _ _ e2] at h3
        exact h1 h3
      · have h4 := h.trans (k z) (k y) (k x) (by omega) (by omega)
        omega
/-- What a sort leaves, as a list. -/
theorem sorted_list {α : Type} [Inhabited α] (lt : α → α → Bool) (d d' : Array α) (hp : PermIn 0 d.size d d') (hs : SortedIn lt 0 d.size d') : d'.toList.Perm d.toList ∧ d'.toList.Pairwise (fun x y => lt y x = false) := by
  obtain ⟨h1, _, h3⟩ := hp
  have e1 : d'.extract 0 d.size = d' := by rw [← h1]; simp
  have e2 : d.extract 0 d.size = d := by simp
  rw [e1, e2] at h3
  refine ⟨h3, ?_⟩
  rw [List.pairwise_iff_getElem]
  intro i j hi hj hij
  have hi' : i < d'.size := by simpa using hi
  have hj' : j < d'.size := by simpa using hj
  have := hs i j (Nat.zero_le _) hij (by omega)
  rw [getElem!_pos d' j hj', getElem!_pos d' i hi'] at this
  simpa using this
/-- Two sorted lists of the same things are one, where no two of them are alike. -/
theorem perm_sorted' {α : Type} (le : α → α → Prop) : ∀ l m : List α, (∀ a ∈ l, ∀ b ∈ l, le a b → le b a → a = b) → l.Perm m → l.Pairwise le → m.Pairwise le → l = m := by
  intro l
  induction l with
  | nil => intro m _ h _ _; exact h.nil_eq
  | cons a l ih =>
    intro m anti h hl hm
    cases m with
    | nil => exact absurd h.symm.nil_eq (by simp)
    | cons b m =>
      have hl' := List.pairwise_cons.1 hl
      have hm' := List.pairwise_cons.1 hm
      have hab : a = b := by
        have h1 : b ∈ a :: l := h.mem_iff.2 (by simp)
        have h2 : a ∈ b :: m := h.mem_iff.1 (by simp)
        rcases List.mem_cons.1 h1 with e | e
        · exact e.symm
        · rcases List.mem_cons.1 h2 with e2 | e2
          · exact e2
          · exact anti a (by simp) b h1 (hl'.1 b e) (hm'.1 a e2)
      subst hab
      rw [ih m (fun x hx y hy => anti x (by simp [hx]) y (by simp [hy])) (List.Perm.cons_inv h) hl'.2 hm'.2]
end Go.Proofs.YtjllbkeobibnkaaDoorP

namespace Go.Proofs.YtjllbkeobibnkaaDoor.Q
open Go Go.Proofs Go.Shelf Go.RowKit Go.Lib Go.Sort Go.Proofs.YtjllbkeobibnkaaDoorP Go.Proofs.YtjllbkeobibnkaaDoorK Go.Proofs.YtjllbkeobibnkaaDoorW.PrintWords Go.Proofs.YtjllbkeobibnkaaDoorW.PrintLast Go.Proofs.YtjllbkeobibnkaaDoorW.PrintMore
set_option linter.unusedSimpArgs false
set_option linter.unusedVariables false
/-! ### What scope's functions compute. Plain. -/
def withinS (d p : ByteArray) : Bool := (p.toList == d.toList) || belowS d p
def leP (x y : ByteArray) : Prop := ¬ pcmp y x < 0
instance (x y : ByteArray) : Decidable (leP x y) := inferInstanceAs (Decidable (¬ _))
theorem leP_trans {x y z : ByteArray} (h1 : leP x y) (h2 : leP y z) : leP x z := by
  have := (swo_key good_path (fun x : ByteArray => x)).ntrans z y x
  simp only [ltOf, decide_eq_false_iff_not] at this
  exact this h2 h1
theorem leP_total (x y : ByteArray) : leP x y ∨ leP y x := by
  unfold leP
  have h := good_path.lt x y
  omega
theorem leP_anti {x y : ByteArray} (h1 : leP x y) (h2 : leP y x) : x = y := by
  unfold leP at h1 h2
  have a1 := good_path.lt x y
  have a2 := good_path.lt y x
  exact good_path.eq x y (by omega)
theorem leP_refl (x : ByteArray) : leP x x := by
  unfold leP
  rw [good_path.refl]
  decide
def insP (x : ByteArray) : List ByteArray → List ByteArray
  | [] => [x]
  | y :: l => if leP x y then x :: y :: l else y :: insP x l
def sortP : List ByteArray → List ByteArray
  | [] => []
  | x :: l => insP x (sortP l)
theorem insP_perm (x : ByteArray) (l : List ByteArray) : (insP x l).Perm (x :: l) := by
  induction l with
  | nil => exact List.Perm.refl _
  | cons y l ih =>
    unfold insP
    split
    · exact List.Perm.refl _
    · exact (List.Perm.cons y ih).trans (List.Perm.swap x y l)
theorem sortP_perm (l : List ByteArray) : (sortP l).Perm l := by
  induction l with
  | nil => exact List.Perm.refl _
  | cons x l ih => exact (insP_perm x _).trans (List.Perm.cons x ih)
theorem insP_sorted (x : ByteArray) (l : List ByteArray) (h : l.Pairwise leP) : (insP x l).Pairwise leP := by
  induction l with
  | nil => exact List.pairwise_singleton _ _
  | cons y l ih =>
    have h' := List.pairwise_cons.1 h
    unfold insP
    split
    · rename_i hxy
      refine List.pairwise_cons.2 ⟨fun z hz => ?_, h⟩
      rcases List.mem_cons.1 hz with rfl | hz
      · exact hxy
      · exact leP_trans hxy (h'.1 z hz)
    · rename_i hxy
      refine List.pairwise_cons.2 ⟨fun z hz => ?_, ih h'.2⟩
      rcases List.mem_cons.1 ((insP_perm x l).mem_iff.1 hz) with rfl | hz
      · exact (leP_total z y).resolve_left hxy
      · exact h'.1 z hz
theorem sortP_sorted (l : List ByteArray) : (sortP l).Pairwise leP := by
  induction l with
  | nil => exact List.Pairwise.nil
  | cons x l ih => exact insP_sorted x _ ih
theorem sortP_one {l m : List ByteArray} (hp : m.Perm l) (hs : m.Pairwise leP) : m = sortP l :=
  perm_sorted leP (fun a b h1 h2 => leP_anti h1 h2) m (sortP l) (hp.trans (sortP_perm l).symm) hs (sortP_sorted l) (fun a _ => leP_refl a)
/-- One more directory, behind those that are kept. -/
def addP (out : List ByteArray) (p : ByteArray) : List ByteArray := match out.getLast? with
  | none => [p]
  | some q => if withinS q p = true then out else out ++ [p]
def redA : List ByteArray → List ByteArray → List ByteArray
  | out, [] => out
  | out, p :: l => redA (addP out p) l
def reduceS (l : List ByteArray) : List ByteArray := redA [] (sortP l)
theorem addP_len (out : List ByteArray) (p : ByteArray) : (addP out p).length ≤ out.length + 1 := by
  unfold addP
  split
  · simp
  · split <;> simp
theorem redA_len (l : List ByteArray) : ∀ out, (redA out l).length ≤ out.length + l.length := by
  induction l with
  | nil => intro out; simp [redA]
  | cons p l ih =>
    intro out
    have h1 := ih (addP out p)
    have h2 := addP_len out p
    simp only [redA, List.length_cons]
    omega
theorem reduceS_len (l : List ByteArray) : (reduceS l).length ≤ l.length := by
  have h := redA_len (sortP l) []
  rw [(sortP_perm l).length_eq] at h
  unfold reduceS
  simpa using h
def shortP (l : List ByteArray) : Bool := decide (l.length ≤ 1048576) && l.all fun p => decide (p.size ≤ 65536)
theorem shortP_mem {l : List ByteArray} (h : shortP l = true) : l.length ≤ 1048576 ∧ ∀ p ∈ l, p.size ≤ 65536 := by
  unfold shortP at h
  simp only [Bool.and_eq_true, decide_eq_true_eq, List.all_eq_true] at h
  exact h
theorem shortP_mk {l : List ByteArray} (h1 : l.length ≤ 1048576) (h2 : ∀ p ∈ l, p.size ≤ 65536) : shortP l = true := by
  unfold shortP
  simp only [Bool.and_eq_true, decide_eq_true_eq, List.all_eq_true]
  exact ⟨h1, h2⟩
theorem shortP_app {a b : List ByteArray} (ha : shortP a = true) (hb : shortP b = true) (h : a.length + b.length ≤ 1048576) : shortP (a ++ b) = true :=
  shortP_mk (by rw [List.length_append]; exact h) (fun p hp => (List.mem_append.1 hp).elim ((shortP_mem ha).2 p) ((shortP_mem hb).2 p))
end Go.Proofs.YtjllbkeobibnkaaDoor.Q

namespace Go.Proofs.YtjllbkeobibnkaaDoorP
open Go Go.Lib
/-! A text, parted at each byte c. -/
def sepC (c : UInt8) : List UInt8 → List (List UInt8)
  | [] => [[]]
  | b :: l => if b = c then [] :: sepC c l else match sepC c l with
    | [] => [[b]]
    | n :: ns => (b :: n) :: ns
theorem sepC_ne (c : UInt8) (l : List UInt8) : sepC c l ≠ [] := by
  cases l with
  | nil => simp [sepC]
  | cons b l =>
    unfold sepC
    split
    · simp
    · split <;> simp
theorem split_sepC (c : UInt8) (l : List UInt8) : splitK [c] 0 (count l [c]) l = sepC c l := by
  induction l with
  | nil => rfl
  | cons b l ih =>
    by_cases h : b = c
    · subst h
      rw [count_cons_eq, Nat.add_comm, splitK, index_cons_eq, if_neg (by decide)]
      simp only [sepC, if_pos]
      simpa using ih
    · rw [count_cons_ne b c l h]
      simp only [sepC, if_neg h]
      rw [← ih]
      cases hk : count l [c] with
      | zero => simp [splitK]
      | succ k =>
        have hi : index l [c] ≠ -1 := fun e => by have := (index_none l c).1 e; omega
        have hg := index_ge l c
        obtain ⟨i, hii⟩ : ∃ i : Nat, index l [c] = (i : Int) := ⟨(index l [c]).toNat, by omega⟩
        rw [splitK, splitK, index_cons_ne l b c h, hii]
        have e1 : ¬ ((i : Int) == -1) = true := by simp <;> omega
        have e2 : ¬ ((i : Int) + 1 == -1) = true := by simp <;> omega
        rw [if_neg e1, if_neg e2, if_neg e1]
        have e3 : ((i : Int) + 1).toNat = i + 1 := by omega
        have e4 : (i : Int).toNat = i := by omega
        rw [e3, e4]
        simp
theorem names_sepC (l : List UInt8) : names l = sepC 47 l := by
  induction l with
  | nil => rfl
  | cons b l ih =>
    rw [names, sepC, ih]
    all_goals
      by_cases h : b = 47
      · rw [if_pos h, if_pos h]
      · rw [if_neg h, if_neg h]
        cases sepC 47 l <;> rfl
theorem sepC_size (c : UInt8) (l : List UInt8) : ∀ n ∈ sepC c l, n.length ≤ l.length := by
  induction l with
  | nil => intro n hn; simp [sepC] at hn; simp [hn]
  | cons b l ih =>
    intro n hn
    unfold sepC at hn
    split at hn
    · rcases List.mem_cons.1 hn with e | hn
      · rw [e]; exact Nat.zero_le _
      · exact Nat.le_succ_of_le (ih n hn)
    · split at hn
      · rename_i he
        exact absurd he (sepC_ne c l)
      · rename_i m ms he
        rcases List.mem_cons.1 hn with e | hn
        · rw [e, List.length_cons, List.length_cons]
          exact Nat.succ_le_succ (ih m (by rw [he]; exact List.mem_cons_self))
        · exact Nat.le_succ_of_le (ih n (by rw [he]; exact List.mem_cons_of_mem _ hn))
theorem sepC_len (c : UInt8) (l : List UInt8) : (sepC c l).length ≤ l.length + 1 := by
  induction l with
  | nil => simp [sepC]
  | cons b l ih =>
    unfold sepC
    split
    · simp only [List.length_cons]; omega
    · split
      · simp
      · rename_i m ms he
        rw [he] at ih
        simp only [List.length_cons] at ih ⊢
        omega
/-- Two texts with the byte between. -/
theorem sepC_app (c : UInt8) (a b : List UInt8) : sepC c (a ++ c :: b) = sepC c a ++ sepC c b := by
  induction a with
  | nil => simp [sepC]
  | cons x a ih =>
    rw [List.cons_append, sepC, sepC, ih]
    by_cases h : x = c
    · rw [if_pos h, if_pos h]; rfl
    · rw [if_neg h, if_neg h]
      cases hs : sepC c a with
      | nil => exact absurd hs (sepC_ne c a)
      | cons n ns => rfl
theorem sepC_free (c : UInt8) (a : List UInt8) (h : c ∉ a) : sepC c a = [a] := by
  induction a with
  | nil => rfl
  | cons x a ih =>
    unfold sepC
    rw [if_neg (fun e => h (by rw [e]; exact List.mem_cons_self)), ih (fun hm => h (List.mem_cons_of_mem _ hm))]
end Go.Proofs.YtjllbkeobibnkaaDoorP

namespace Go.Proofs.YtjllbkeobibnkaaDoorK
open Go Go.Proofs
/-! ### the order of strings: less, or greater, or alike -/
theorem bl_irrefl : ∀ x : List UInt8, Op.bytesLess x x = false
  | [] => rfl
  | a :: x => by
    have h := bl_irrefl x
    simp only [Op.bytesLess, h, Bool.and_false, Bool.or_false, decide_eq_false_iff_not]
    exact UInt8.lt_irrefl a
theorem bl_ne (x y : List UInt8) (h : Op.bytesLess y x = true) : (x == y) = false := by
  rw [beq_eq_false_iff_ne]
  rintro rfl
  rw [bl_irrefl] at h
  exact absurd h (by decide)
theorem bl_eq : ∀ x y : List UInt8, Op.bytesLess x y = false → Op.bytesLess y x = false → x = y
  | [], [] => fun _ _ => rfl
  | [], b :: y => fun h _ => absurd h (by simp [Op.bytesLess])
  | a :: x, [] => fun _ h => absurd h (by simp [Op.bytesLess])
  | a :: x, b :: y => fun h g => by
    simp only [Op.bytesLess, Bool.or_eq_false_iff, decide_eq_false_iff_not, Bool.and_eq_false_iff, beq_eq_false_iff_ne] at h g
    have hab : a = b := UInt8.le_antisymm (UInt8.not_lt.1 g.1) (UInt8.not_lt.1 h.1)
    subst hab
    rw [bl_eq x y (h.2.resolve_left (by simp)) (g.2.resolve_left (by simp))]
theorem bl_eqb (x y : List UInt8) (h : Op.bytesLess x y = false) (g : Op.bytesLess y x = false) : (x == y) = true := beq_iff_eq.2 (bl_eq x y h g)
@[go_sem] theorem binOp_string_gtr_k (t : TypeId) (a b : ByteArray) : binOp .gtr t (.string a) (.string b) = pure (.bool !(Op.bytesLess a.toList b.toList || a.toList == b.toList)) := by simp [binOp, Op.stringOp]
end Go.Proofs.YtjllbkeobibnkaaDoorK
