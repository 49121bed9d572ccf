/- Parts of the proof: K3, K6, K0, K2, K7, K8, Q0, HTyp, HMem, K4, KS, HFind, HAlike, HAt, K9, HApp, HStep, HApp33, HOpen, PP. -/
import Derived.Test.YtjllbkeobibnkaaDoorWMore
import Derived.Laws.Rows
import Derived.WalkKit
import Derived.Test.YtjllbkeobibnkaaDoorWWords
import Derived.Deep.Slices
import Derived.ChangeArms
import Derived.SizedLaws
import Derived.OpenShut
import Derived.ChangeKeysEq
import Derived.Laws.IdiomStrings
import Derived.Deep.QuietTactic
import Derived.Test.YtjllbkeobibnkaaDoorProg
import Derived.Below
import Derived.Deep.Draws
import Derived.Deep.AppendLies
import Derived.Maps.AppendAt
import Derived.OwnWalk
import Derived.Laws.BytesArg
import Derived.Laws.MakeOwn
import Derived.Laws.OwnMore
import Derived.Deep.OwnRows
import Derived.Tactics
import Derived.Lib.ConvBytes
import Derived.Laws.Slices
import Derived.KernelRfl
import Derived.RowKit3
import Derived.Deep.LoopGhost
import Derived.BigQuiet
import Derived.WideLaws
import Derived.Deep.DeepCutAuto
import Derived.Deep.CutBlock
import Derived.Deep.RegionHeld3
import Derived.Lib.AppendStr
import Derived.ArgAppend
import Derived.Laws.IdiomCopy
import Derived.OrdersHeld
import Derived.Laws.BitsLemmas
import Derived.RowKit
import Derived.Test.YtjllbkeobibnkaaDoorWLast
import Derived.Test.YtjllbkeobibnkaaDoorWTab
import Derived.Test.YtjllbkeobibnkaaDoorWQPut
import Derived.Test.YtjllbkeobibnkaaDoorWApart
import Derived.Test.YtjllbkeobibnkaaDoorWArr
import Derived.Test.YtjllbkeobibnkaaDoorWZeros
import Derived.Test.YtjllbkeobibnkaaDoorWFoot
import Derived.Test.YtjllbkeobibnkaaDoorWKept
import Derived.Test.YtjllbkeobibnkaaDoorWShare
import Derived.Test.YtjllbkeobibnkaaDoorWN
import Derived.Test.YtjllbkeobibnkaaDoorWFootNe
import Derived.Test.YtjllbkeobibnkaaDoorWRepsOne
import Derived.Test.YtjllbkeobibnkaaDoorWInv
import Derived.Test.YtjllbkeobibnkaaDoorWInvWords
import Derived.Test.YtjllbkeobibnkaaDoorWNEv
import Derived.Laws.CopyRow
import Derived.Shelf.Abstract
import Derived.Lib.BufferWrite
import Derived.Lib.SplitLaws
import Derived.Lib.Bytealg
set_option linter.unusedVariables false
set_option linter.unusedSimpArgs false
namespace Go.Proofs.YtjllbkeobibnkaaDoorK
open Go Go.RowKit Go.Proofs.YtjllbkeobibnkaaDoorW.PrintWords
theorem grown_setRow (w : World) (g : Nat) (cs : Array Value) : w.grownBy (w.setRow g cs) (some g) := by
  constructor
  all_goals first | rfl | (simp; done) | skip
  all_goals intro k hk hne
  all_goals exact setRow_other w g k cs (by intro e; exact hne (by rw [e]))
section
variable {P : Program} {ops : Array Oper} {rest : List Oper} {o : Oper} {a : Act} {W : World} {Q : Exit → Act → World → Prop}
theorem box_store (hgd : o.guard = none) (hN : o.dst = none) (ty : TypeId) (x y : Operand) (ho : o.op = .store ty x y)
    {g : Nat} {t : TypeId} {old : Array Value} (hg : W.heap[g]? = some (.cells old t (0, 0))) (cells : Array Value) (hx : a.eval x = .pointer (some ⟨g, 0, none⟩)) (hy : a.eval y = .agg cells)
    (hi : (P.info? ty).map (·.size) = some cells.size) (hold : old.size = cells.size) (h1 : cells.toList.all (·.oneCell') = true)
    (h : ∀ w1, w1.heap[g]? = some (.cells cells t (0, 0)) → W.grownBy w1 (some g) → wpList P ops Q rest a w1) : wpList P ops Q (o :: rest) a W := by
  refine wpList_store_row hgd ty x y ho g cells hx hy t old hg hi hold (by rw [← Array.all_toList]; exact h1) ?_
  rw [hN]
  exact h _ (setRow_heap W g old cells t (0, 0) hg) (grown_setRow W g cells)
theorem results_row_tmp {fn : Func} {p q : Tmp} {ty : TypeId} (h : fn.results = #[.cell p ty, .tmp q]) (tmps : Array Value) (w : World) {g : Nat} {t : TypeId} {cs : Array Value} {d : TypeDesc} (v : Value)
    (hg : w.heap[g]? = some (.cells cs t (0, 0))) (hp : tmps.getD p undef = .pointer (some ⟨g, 0, none⟩)) (hq : tmps.getD q undef = v)
    (hu : P.underlying ty = some d) (hd : (match d with | .struct _ | .array _ _ => true | _ => false) = true) (hi : (P.info? ty).map (·.size) = some cs.size) :
    (results fn tmps).run P w = .ok (.tuple #[.agg cs, v]) w := by
  have hp' : tmps[p]?.getD undef = .pointer (some ⟨g, 0, none⟩) := by simpa using hp
  have hq' : tmps[q]?.getD undef = v := by simpa using hq
  simp [results, h, hp', hq', asAddr, run_loadVar_row w g t ty cs (0, 0) d hg hu hd hi]
end
end Go.Proofs.YtjllbkeobibnkaaDoorK

namespace Go.Proofs.YtjllbkeobibnkaaDoorK
open Go Go.RowKit Go.Proofs.YtjllbkeobibnkaaDoorW.PrintWords
/-- Which of the elder blocks may have been written: none, one, or all from b on. -/
inductive Touch where
  | none
  | row (g : Nat)
  | above (b : Nat)
/-- Block k was not. -/
def Touch.Ok : Touch → Nat → Prop
  | .none, _ => True
  | .row g, k => k ≠ g
  | .above b, k => k < b
structure Kept0 (W W' : World) (T : Touch) : Prop where
  os : W'.os = W.os
  tape : W'.tape = W.tape
  output : W'.output = W.output
  size : W.heap.size ≤ W'.heap.size
  block : ∀ k, k < W.heap.size → T.Ok k → W'.heap[k]? = W.heap[k]?
/-- W' came of W. -/
class Prev (W' : World) (W : outParam World) (T : outParam Touch) : Prop where
  out : Kept0 W W' T
theorem kept_below {W W' : World} (h : Below W.heap.size W W') : Kept0 W W' .none := ⟨h.os, h.tape, h.output, h.size, fun k hk _ => h.block k hk⟩
theorem kept_above {W W' : World} {b : Nat} (h : Below b W W') : Kept0 W W' (.above b) := ⟨h.os, h.tape, h.output, h.size, fun k _ hk => h.block k hk⟩
theorem kept_row {W W' : World} {g : Nat} (h : W.grownBy W' (some g)) : Kept0 W W' (.row g) := ⟨h.os, h.tape, h.output, h.size, fun k hk hne => h.block k hk (fun e => hne (Option.some.inj e))⟩
theorem kept_grown {W W' : World} (h : W.grownBy W' Option.none) : Kept0 W W' .none := ⟨h.os, h.tape, h.output, h.size, fun k hk _ => h.block k hk (by simp)⟩
instance (W : World) (o : Obj) : Prev (W.alloc o) W .none := ⟨kept_grown (World.grownBy_alloc W o Option.none)⟩
instance (W : World) : Prev W.drew W .none := ⟨⟨rfl, rfl, rfl, Nat.le_refl _, fun _ _ _ => rfl⟩⟩
instance (W : World) (n : Nat) : Prev (W.drewN n) W .none := ⟨kept_below (pw_below_drewN (Below.refl W.heap.size W) n)⟩
instance (W : World) (g j : Nat) (v : Value) : Prev (W.setCell ⟨g, j, Option.none⟩ v) W (.row g) := by
  have h := (Below.refl g W).setCell (p := ⟨g, j, Option.none⟩) (Nat.le_refl _) v
  exact ⟨⟨h.os, h.tape, h.output, by simp [World.setCell], fun k _ hne => Below.heap_setCell W ⟨g, j, Option.none⟩ v k hne⟩⟩
theorem prev_call {W W1 : World} (h : Below W.heap.size W W1) : Prev W1 W .none := ⟨kept_below h⟩
theorem prev_above {W W1 : World} {b : Nat} (h : Below b W W1) : Prev W1 W (.above b) := ⟨kept_above h⟩
theorem prev_row {W W1 : World} {g : Nat} (h : W.grownBy W1 (some g)) : Prev W1 W (.row g) := ⟨kept_row h⟩
/-- The row that an append may have written. -/
def touchOf : Option Nat → Touch
  | Option.none => .none
  | some g => .row g
theorem prev_grown {W W1 : World} {row : Option Nat} (h : W.grownBy W1 row) : Prev W1 W (touchOf row) := by
  cases row with
  | none => exact ⟨kept_grown h⟩
  | some g => exact prev_row h
/-- Block g is not what was written. -/
class Apart (g : Nat) (T : Touch) : Prop where
  out : T.Ok g
instance (g : Nat) : Apart g .none := ⟨trivial⟩
theorem apart_ne {g g' : Nat} (h : g ≠ g') : Apart g (.row g') := ⟨h⟩
instance (n : Nat) : Apart n (.above (n + 1)) := ⟨Nat.lt_succ_self n⟩
instance (n : Nat) : Apart n (.above (n + 2)) := ⟨by show n < n + 2; omega⟩
instance (n : Nat) : Apart n (.row (n + 1)) := ⟨Nat.ne_of_lt (Nat.lt_succ_self n)⟩
/-- What was written is b's own: block b or a later one. -/
class OwnB (b : Nat) (T : Touch) : Prop where
  out : ∀ k, k < b → T.Ok k
instance (b : Nat) : OwnB b .none := ⟨fun _ _ => trivial⟩
theorem own_row {b g : Nat} (h : b ≤ g) : OwnB b (.row g) := ⟨fun k hk e => by subst e; omega⟩
theorem own_above {b g : Nat} (h : b ≤ g) : OwnB b (.above g) := ⟨fun _ hk => Nat.lt_of_lt_of_le hk h⟩
instance (b : Nat) : OwnB b (.row b) := own_row (Nat.le_refl b)
instance (b n : Nat) : OwnB b (.row (b + n)) := own_row (Nat.le_add_right b n)
instance (b : Nat) : OwnB b (.above b) := own_above (Nat.le_refl b)
instance (b n : Nat) : OwnB b (.above (b + n)) := own_above (Nat.le_add_right b n)
/-- Below b nothing is turned. -/
class Bel (b : Nat) (W W' : World) : Prop where
  out : b ≤ W.heap.size → Below b W W'
instance (b : Nat) (W : World) : Bel b W W := ⟨fun _ => Below.refl _ _⟩
instance (b : Nat) (W W1 W' : World) (T : Touch) [p : Prev W' W1 T] [h : Bel b W W1] [o : OwnB b T] : Bel b W W' :=
  ⟨fun hb => by
    have h1 := h.out hb
    have h2 := p.out
    refine h1.trans ⟨h2.os, h2.tape, h2.output, h2.size, fun k hk => h2.block k (by have := h1.size; omega) (o.out k hk)⟩⟩
theorem bel (w W : World) [h : Bel w.heap.size w W] : Below w.heap.size w W := h.out (Nat.le_refl _)
theorem siz (w W : World) [h : Bel w.heap.size w W] : w.heap.size ≤ W.heap.size := (bel w W).size
/-- How large the heap is at least. -/
class Size (n : Nat) (W : World) : Prop where
  out : n ≤ W.heap.size
instance (W : World) : Size W.heap.size W := ⟨Nat.le_refl _⟩
instance (priority := low) (n : Nat) (W W' : World) (T : Touch) [p : Prev W' W T] [h : Size n W] : Size n W' := ⟨Nat.le_trans h.out p.out.size⟩
instance (W : World) (o : Obj) : Size (W.heap.size + 1) (W.alloc o) := ⟨by rw [World.size_alloc]; exact Nat.le_refl _⟩
/-- Block g of world W is o. -/
class Holds (W : World) (g : Nat) (o : outParam Obj) : Prop where
  out : W.heap[g]? = some o
instance holds_new (W : World) (o : Obj) : Holds (W.alloc o) W.heap.size o := ⟨blk_new W o⟩
instance (W : World) (o1 o : Obj) : Holds ((W.alloc o1).alloc o) (W.heap.size + 1) o := ⟨by have := blk_new (W.alloc o1) o; rwa [World.size_alloc] at this⟩
instance (W : World) (o1 o2 o : Obj) : Holds (((W.alloc o1).alloc o2).alloc o) (W.heap.size + 2) o := ⟨by have := blk_new ((W.alloc o1).alloc o2) o; rwa [World.size_alloc, World.size_alloc] at this⟩
instance (priority := low) holds_step (W' W : World) (T : Touch) (g : Nat) (o : Obj) [p : Prev W' W T] [a : Apart g T] [h : Holds W g o] : Holds W' g o := ⟨(p.out.block g (blk_lt h.out) a.out).trans h.out⟩
instance (W : World) (g j : Nat) (v : Value) (cs : Array Value) (t : TypeId) [h : Holds W g (.cells cs t (0, 0))] : Holds (W.setCell ⟨g, j, Option.none⟩ v) g (.cells (cs.setIfInBounds j v) t (0, 0)) := ⟨blk_set h.out j v⟩
theorem held {W : World} {g : Nat} {o : Obj} [h : Holds W g o] : W.heap[g]? = some o := h.out
theorem cell_held {W : World} {g j : Nat} {cs : Array Value} {t : TypeId} [h : Holds W g (.cells cs t (0, 0))] : W.cell? ⟨g, j, Option.none⟩ = cs[j]? := blk_cell h.out j
theorem frozen_held {W : World} {g j : Nat} {cs : Array Value} {t : TypeId} [h : Holds W g (.cells cs t (0, 0))] : W.frozen? ⟨g, j, Option.none⟩ = false := blk_frozen h.out j
theorem held_lt {W : World} {g : Nat} {o : Obj} [h : Holds W g o] : g < W.heap.size := blk_lt h.out
/-- No block of the types L was written. -/
class NoRow (L : List Nat) (W : World) (T : Touch) : Prop where
  out : ∀ k t cells, W.heap[k]? = some (.cells cells t (0, 0)) → t ∈ L → T.Ok k
instance (L : List Nat) (W : World) : NoRow L W .none := ⟨fun _ _ _ _ _ => trivial⟩
theorem noRow_row {L : List Nat} {W : World} {g t : Nat} {cs : Array Value} (h : W.heap[g]? = some (.cells cs t (0, 0))) (hL : ∀ q, q ∈ L → q ≠ t) : NoRow L W (.row g) :=
  ⟨fun k t' cells hc ht e => by
    subst e
    rw [hc] at h
    injection h with h
    injection h with _ h
    exact hL t' ht h⟩
/-- Rows of the types L are kept. -/
class Rows0 (L : List Nat) (W W' : World) : Prop where
  out : ∀ {α : Type} (d : Kd α) (e base : Nat) (v : Value) (xs : List α), e :: d.E = L → d.R e W base (fun _ => True) v xs → d.R e W' base (fun _ => True) v xs
instance (L : List Nat) (W : World) : Rows0 L W W := ⟨fun _ _ _ _ _ _ h => h⟩
instance (L : List Nat) (W W1 W' : World) (T : Touch) [p : Prev W' W1 T] [h : Rows0 L W W1] [o : NoRow L W1 T] : Rows0 L W W' :=
  ⟨fun d e base v xs hL hr => by
    have h1 := h.out d e base v xs hL hr
    refine Kd.R_mono (Kd.R_step (Kd.R_bound h1) (fun k hk hlt => ?_)) (fun _ hk => hk.1)
    obtain ⟨_, _, _, q, hq, cells, hc⟩ := hk
    exact p.out.block k hlt (o.out k q cells hc (by rw [← hL]; exact hq))⟩
theorem apart_R {α : Type} {d : Kd α} {e base : Nat} {W : World} {v : Value} {xs : List α} {ok : Nat → Prop} (h : d.R e W base ok v xs) {g t : Nat} {cs : Array Value} (hg : W.heap[g]? = some (.cells cs t (0, 0))) (ht : e ≠ t) : Apart g (touchOf v.ownBlock) := by
  have h1 := Kd.R_ne h hg ht
  constructor
  cases hv : v.ownBlock with
  | none => trivial
  | some k => exact fun he => h1 (by rw [hv, he])
theorem ownB_R {α : Type} {d : Kd α} {e base b : Nat} {W : World} {v : Value} {xs : List α} {ok : Nat → Prop} (h : d.R e W base ok v xs) (hb : b ≤ base) : OwnB b (touchOf v.ownBlock) := by
  have h1 := Kd.R_base h
  cases hv : v.ownBlock with
  | none => exact ⟨fun _ _ => trivial⟩
  | some k => exact own_row (Nat.le_trans hb (h1 k hv))
theorem noRow_R {α : Type} {d : Kd α} {e base : Nat} {W : World} {v : Value} {xs : List α} {ok : Nat → Prop} {L : List Nat} (h : d.R e W base ok v xs) (hL : ∀ q, q ∈ L → q ≠ e) : NoRow L W (touchOf v.ownBlock) := by
  have h1 := Kd.R_typed h
  cases hv : v.ownBlock with
  | none => exact ⟨fun _ _ _ _ _ => trivial⟩
  | some k =>
    obtain ⟨cells, hc⟩ := h1 k hv
    exact noRow_row hc hL
theorem rowK {α : Type} {d : Kd α} {e base : Nat} {W W' : World} {v : Value} {xs : List α} (h : d.R e W base (fun _ => True) v xs) [r : Rows0 (e :: d.E) W W'] : d.R e W' base (fun _ => True) v xs := r.out d e base v xs rfl h
end Go.Proofs.YtjllbkeobibnkaaDoorK

namespace Go.Proofs.YtjllbkeobibnkaaDoorK
open Go
theorem isSome_set (c : Array Value) (i j : Nat) (v : Value) : (c.setIfInBounds i v)[j]?.isSome = c[j]?.isSome := by
  rw [Array.getElem?_setIfInBounds]
  split
  · rename_i h
    subst h
    by_cases h2 : i < c.size
    · simp [h2]
    · rw [if_neg h2, Array.getElem?_eq_none (by omega)]
  · rfl
theorem isSome_setCell (w : World) (a b : Addr) (v : Value) : ((w.setCell a v).cell? b).isSome = (w.cell? b).isSome := by
  simp only [World.setCell, World.cell?, Array.getElem?_modify]
  by_cases hb : a.block = b.block
  · simp only [hb, if_true]
    cases hh : w.heap[b.block]? with
    | none => simp
    | some x =>
      cases x <;> simp
      split
      · rfl
      · split
        · rfl
        · exact isSome_set _ _ _ _
  · simp only [if_neg hb]
end Go.Proofs.YtjllbkeobibnkaaDoorK

namespace Go.Proofs.YtjllbkeobibnkaaDoorK
open Go Go.RowKit Go.ChangeShapes Go.WideShapes Go.Deep Go.Proofs.YtjllbkeobibnkaaDoorW.PrintWords
def Opens (P : Program) (t : TypeId) {α : Type} (d : Kd α) (good : α → Prop) : Prop :=
  ∀ (H : Type) (enc : TypeId × Value → H) (w : World) (base : Nat) (spare : Nat → Bool) (held : Bool) (fuel : Nat) (cs : List Value) (x : DataW H × List MemPlace), DataW.trod enc P w base spare held fuel t cs = some x → ∃ a, d.K w a cs ∧ good a
theorem pick_list {α : Type} {p : Nat → α → Prop} (n : Nat) (h : ∀ i, i < n → ∃ a, p i a) : ∃ l : List α, l.length = n ∧ ∀ i a, l[i]? = some a → p i a := by
  induction n with
  | zero => exact ⟨[], rfl, by simp⟩
  | succ n ih =>
    obtain ⟨l, hll, hlp⟩ := ih (fun i hi => h i (by omega))
    obtain ⟨a, ha⟩ := h n (by omega)
    refine ⟨l ++ [a], by simp [hll], fun i q hq => ?_⟩
    rcases Nat.lt_or_ge i n with hi | hi
    · rw [List.getElem?_append_left (by omega)] at hq
      exact hlp i q hq
    · rw [List.getElem?_append_right (by omega)] at hq
      have hi2 : i = n := by
        have h1 := (List.getElem?_eq_some_iff.1 hq).1
        simp at h1
        omega
      subst hi2
      rw [hll] at hq
      simp at hq
      subst hq
      exact ha
section
variable {P : Program} {t e : TypeId} {α β γ : Type}
theorem opens_int {k : IntKind} (ht : P.underlying t = some (.int k)) : Opens P t (Kd.int k) (fun n => (Lit.int k n).wf = true) := by
  intro H enc w base spare held fuel cs x h
  obtain ⟨n, rfl, _, hw⟩ := DataW.trod_int ht h
  exact ⟨n, rfl, hw⟩
theorem opens_string (ht : P.underlying t = some .string) : Opens P t Kd.string (fun s => s.size ≤ 9223372036854775807) := by
  intro H enc w base spare held fuel cs x h
  obtain ⟨s, rfl, _, hs⟩ := DataW.trod_string ht h
  exact ⟨s, rfl, by unfold maxLen at hs; exact hs⟩
theorem opens_slice {d : Kd α} {good : α → Prop} (ht : P.underlying t = some (.slice e)) (hs : P.cellsOf e = d.sz) (ho : Opens P e d good) : Opens P t (Kd.slice e d) (fun l => l.length ≤ 9223372036854775807 ∧ ∀ a ∈ l, good a) := by
  intro H enc w base spare held fuel cs x h
  rcases open_slice ht h with ⟨rfl, _⟩ | ⟨a, len, cap, m, n, D, Pl, rfl, _, hl, hm, hmm, _, hx⟩
  · exact ⟨[], ⟨none, 0, rfl, Nat.le_refl _, Kd.C_nil d w⟩, by simp, by simp⟩
  · have hlm : len ≤ m := by rw [hmm]; split <;> omega
    unfold maxLen at hm
    have key : ∀ i, i < len → ∃ p : α, (∃ c, c.length = d.sz ∧ d.K w p c ∧ ∀ j u, c[j]? = some u → w.cell? (a.add (i * d.sz + j)) = some u) ∧ good p := by
      intro i hi
      obtain ⟨c, hc, hd⟩ := hx i (by omega)
      obtain ⟨p, hK, hg⟩ := ho _ _ _ _ _ _ _ _ _ hd
      obtain ⟨_, hcl, hat⟩ := World.cells?_some hc
      refine ⟨p, ⟨c, by rw [hcl, hs], hK, fun j u hj => ?_⟩, hg⟩
      have hjl : j < c.length := (List.getElem?_eq_some_iff.1 hj).1
      have h1 := hat j (by omega)
      rw [Go.Deep.add_add, hs, hj] at h1
      exact h1
    obtain ⟨l, hll, hlp⟩ := pick_list len key
    refine ⟨l, ⟨some a, cap, by rw [hll], by omega, rfl, by omega, fun _ => ⟨a, rfl, fun j p hj => (hlp j p hj).1⟩⟩, by omega, fun p hp => ?_⟩
    obtain ⟨i, hi, rfl⟩ := List.getElem_of_mem hp
    exact (hlp i _ (List.getElem?_eq_getElem hi)).2
/-- Fields from an offset on. -/
def OpensAt (P : Program) (l : List Field) (o : Nat) {α : Type} (d : Kd α) (good : α → Prop) : Prop :=
  ∀ (H : Type) (enc : TypeId × Value → H) (w : World) (base : Nat) (spare : Nat → Bool) (held : Bool) (n : Nat) (cs : List Value), (∀ f ∈ l, ∃ x, DataW.trod enc P w base spare held n f.type ((cs.drop f.offset).take (P.cellsOf f.type)) = some x) → cs.length = o + d.sz → ∃ a, d.K w a (cs.drop o) ∧ good a
theorem opensAt_last {f : Field} {o : Nat} {d : Kd α} {good : α → Prop} (hoff : f.offset = o) (hsz : P.cellsOf f.type = d.sz) (ho : Opens P f.type d good) : OpensAt P [f] o d good := by
  intro H enc w base spare held n cs h hl
  obtain ⟨x, hx⟩ := h f List.mem_cons_self
  rw [hoff, hsz, List.take_of_length_le (by rw [List.length_drop]; omega)] at hx
  exact ho _ _ _ _ _ _ _ _ _ hx
theorem opensAt_cons {f : Field} {l : List Field} {o : Nat} {d1 : Kd α} {d2 : Kd β} {g1 : α → Prop} {g2 : β → Prop} (hoff : f.offset = o) (hsz : P.cellsOf f.type = d1.sz) (ho : Opens P f.type d1 g1) (hr : OpensAt P l (o + d1.sz) d2 g2) :
    OpensAt P (f :: l) o (Kd.pair d1 d2) (fun p => g1 p.1 ∧ g2 p.2) := by
  intro H enc w base spare held n cs h hl
  have hl' : cs.length = o + d1.sz + d2.sz := by rw [hl]; exact (Nat.add_assoc _ _ _).symm
  obtain ⟨x, hx⟩ := h f List.mem_cons_self
  rw [hoff, hsz] at hx
  obtain ⟨a, hK, hg⟩ := ho _ _ _ _ _ _ _ _ _ hx
  obtain ⟨b, hKb, hgb⟩ := hr H enc w base spare held n cs (fun f hf => h f (List.mem_cons_of_mem _ hf)) hl'
  refine ⟨(a, b), ⟨(cs.drop o).take d1.sz, cs.drop (o + d1.sz), ?_, hK, hKb⟩, hg, hgb⟩
  rw [← List.drop_drop, List.take_append_drop]
theorem opens_struct {fs : Array Field} {d : Kd α} {good : α → Prop} (ht : P.underlying t = some (.struct fs)) (hC : P.cellsOf t = d.sz) (hl : OpensAt P fs.toList 0 d good) (f : β → α) (g : α → β) (hfg : ∀ a, f (g a) = a) : Opens P t (Kd.iso d f) (fun b => good (f b)) := by
  intro H enc w base spare held fuel cs x h
  obtain ⟨xs, n, _, _, hlen, hxl, hf⟩ := DataW.trod_struct ht h
  obtain ⟨a, hK, hg⟩ := hl H enc w base spare held n cs (fun fl hfl => by
    obtain ⟨i, hi, rfl⟩ := List.getElem_of_mem hfl
    have hi' : i < fs.size := by simpa using hi
    have h1 := hf i fs[i] (Array.getElem?_eq_getElem hi')
    rw [List.getElem?_eq_getElem (by omega)] at h1
    exact ⟨_, by simpa using h1⟩) (by rw [hlen, hC, Nat.zero_add])
  exact ⟨g a, by show d.K w (f (g a)) cs; rw [hfg]; simpa using hK, by show good (f (g a)); rw [hfg]; exact hg⟩
end
end Go.Proofs.YtjllbkeobibnkaaDoorK

namespace Go.Proofs.YtjllbkeobibnkaaDoorK
open Go Go.RowKit Go.ChangeShapes Go.WideShapes Go.Deep Go.Proofs.YtjllbkeobibnkaaDoorW.PrintWords
structure Sum where
  l : List UInt8
  h : l.length = 32
theorem Sum.eq {a b : Sum} (h : a.l = b.l) : a = b := by cases a; cases b; simp only at h; subst h; rfl
def sumL (s : Sum) : List Value := s.l.map fun b => .int .u8 (b.toNat : Int)
theorem sumL_len (s : Sum) : (sumL s).length = 32 := by unfold sumL; rw [List.length_map, s.h]
def sum0 : Sum := ⟨List.replicate 32 0, by decide⟩
def kSum : Kd Sum where
  sz := 32
  E := []
  K := fun _ x cs => cs = sumL x
  M := fun _ _ _ x cs => cs = sumL x
  K_len := fun h => by rw [h, sumL_len]
  K_one := fun h u hu => by
    rw [h] at hu
    obtain ⟨b, _, rfl⟩ := List.mem_map.1 hu
    rfl
  K_below := fun _ h => h
  K_of_M := fun h => h
  M_mono := fun _ h => h
  M_bound := fun h => h
  M_move := fun _ h => h
  M_lower := fun _ h => h
section
variable {P : Program} {t e : TypeId}
theorem u8_back {n : Int} (h : (Lit.int .u8 n).wf = true) : ((UInt8.ofNat n.toNat).toNat : Int) = n := by
  simp [Lit.wf, IntKind.min, IntKind.max, IntKind.signed, IntKind.bits] at h
  simp [UInt8.toNat_ofNat']
  omega
theorem opens_sum (ht : P.underlying t = some (.array 32 e)) (he : P.underlying e = some (.int .u8)) (hc : P.cellsOf e = 1) (hs : P.cellsOf t = 32) : Opens P t kSum (fun _ => True) := by
  intro H enc w base spare held fuel cs x h
  obtain ⟨xs, m, _, _, hl, hxl, hx⟩ := DataW.trod_array ht h
  rw [hs] at hl
  rw [hc] at hx
  have key : ∀ i, i < 32 → ∃ b : UInt8, cs[i]? = some (.int .u8 (b.toNat : Int)) := by
    intro i hi
    have h1 := hx i hi
    rw [Nat.mul_one, List.getElem?_eq_getElem (by omega)] at h1
    obtain ⟨n, hn, _, hw⟩ := DataW.trod_int he h1
    have hlt : i < cs.length := by omega
    have h2 : (cs.drop i).take 1 = [cs[i]] := by rw [List.drop_eq_getElem_cons hlt]; rfl
    rw [h2] at hn
    injection hn with hn _
    refine ⟨UInt8.ofNat n.toNat, ?_⟩
    rw [List.getElem?_eq_getElem hlt, hn, u8_back hw]
  obtain ⟨l, hll, hlp⟩ := pick_list 32 key
  refine ⟨⟨l, hll⟩, ?_, trivial⟩
  show cs = sumL ⟨l, hll⟩
  apply List.ext_getElem?
  intro i
  show cs[i]? = (l.map fun b => Value.int .u8 (b.toNat : Int))[i]?
  rw [List.getElem?_map]
  rcases Nat.lt_or_ge i 32 with hi | hi
  · have h3 := hlp i l[i] (List.getElem?_eq_getElem (by omega))
    rw [h3, List.getElem?_eq_getElem (by omega)]
    rfl
  · rw [List.getElem?_eq_none (by omega), List.getElem?_eq_none (by omega)]
    rfl
theorem run_part_one {w : World} (he : P.underlying e = some (.int .u8)) (xs : Array Value) (j : Nat) (v : Value) (h : xs[j]? = some v) : (part e xs j).run P w = .ok v w := by
  unfold part isAgg
  simp [Sem.run_bind, run_underlying he, h]
theorem eqItems_bytes {w : World} (d : Nat) (he : P.underlying e = some (.int .u8)) (xs ys : Array Value) (l m : List UInt8) (hx : ∀ (j : Nat) b, l[j]? = some b → xs[j]? = some (.int .u8 (b.toNat : Int))) (hy : ∀ (j : Nat) b, m[j]? = some b → ys[j]? = some (.int .u8 (b.toNat : Int))) :
    ∀ is : List Nat, (∀ j ∈ is, j < l.length ∧ j < m.length) → (Op.eqItems (d + 1) e 1 xs ys is).run P w = .ok (is.all fun j => l[j]? == m[j]?) w := by
  intro is
  induction is with
  | nil => intro _; simp [Op.eqItems]
  | cons j is ih =>
    intro hj
    obtain ⟨h1, h2⟩ := hj j (by simp)
    have a := run_part_one (P := P) (w := w) he xs (j * 1) _ (by rw [Nat.mul_one]; exact hx j l[j] (List.getElem?_eq_getElem h1))
    have b := run_part_one (P := P) (w := w) he ys (j * 1) _ (by rw [Nat.mul_one]; exact hy j m[j] (List.getElem?_eq_getElem h2))
    have c : (Op.equalIn (d + 1) e (.int .u8 (l[j].toNat : Int)) (.int .u8 (m[j].toNat : Int))).run P w = .ok (l[j] == m[j]) w := by
      have e1 : (((l[j].toNat : Nat) : Int) == ((m[j].toNat : Nat) : Int)) = (l[j] == m[j]) := by
        rw [Bool.eq_iff_iff]
        simp only [beq_iff_eq]
        constructor
        · intro h; exact UInt8.toNat.inj (by omega)
        · intro h; rw [h]
      simp [Op.equalIn, Sem.run_bind, run_underlying he, e1]
    simp only [Op.eqItems, Sem.run_bind, a, b, c, Result.andThen_ok]
    rw [List.all_cons, List.getElem?_eq_getElem h1, List.getElem?_eq_getElem h2]
    by_cases hq : l[j] = m[j]
    · have q1 : (l[j] == m[j]) = true := beq_iff_eq.2 hq
      have q2 : (some l[j] == some m[j]) = true := by simp [hq]
      rw [q1, q2]
      simpa using ih (fun k hk => hj k (by simp [hk]))
    · have q1 : (l[j] == m[j]) = false := beq_eq_false_iff_ne.2 hq
      have q2 : (some l[j] == some m[j]) = false := by simp [hq]
      rw [q1, q2]
      simp
theorem eq_sum {w : World} {i : TypeInfo} (d : Nat) (ht : P.underlying t = some (.array 32 e)) (he : P.underlying e = some (.int .u8)) (hc : P.cellsOf e = 1) (hi : P.info? e = some i) (xs ys : Array Value) (s r : Sum) (hx : xs.toList = sumL s) (hy : ys.toList = sumL r) :
    (Op.equalIn (d + 2) t (.agg xs) (.agg ys)).run P w = .ok (s.l == r.l) w := by
  have g : ∀ (zs : Array Value) (q : Sum), zs.toList = sumL q → ∀ (j : Nat) b, q.l[j]? = some b → zs[j]? = some (.int .u8 (b.toNat : Int)) := by
    intro zs q hz j b hb
    rw [← Array.getElem?_toList, hz]
    unfold sumL
    rw [List.getElem?_map, hb]
    rfl
  rw [run_equalIn_array (P := P) (w := w) (d + 1) xs ys ht hi, hc, eqItems_bytes d he xs ys s.l r.l (g xs s hx) (g ys r hy) _ (fun j hj => by rw [List.mem_range] at hj; rw [s.h, r.h]; exact ⟨hj, hj⟩)]
  congr 1
  rw [Bool.eq_iff_iff, List.all_eq_true, beq_iff_eq]
  constructor
  · intro h
    apply List.ext_getElem?
    intro j
    rcases Nat.lt_or_ge j 32 with hj | hj
    · simpa using h j (List.mem_range.2 hj)
    · rw [List.getElem?_eq_none (by rw [s.h]; exact hj), List.getElem?_eq_none (by rw [r.h]; exact hj)]
  · intro h j _
    rw [h]
    simp
end
end Go.Proofs.YtjllbkeobibnkaaDoorK

namespace Go.Proofs.YtjllbkeobibnkaaDoorK
open Go Go.RowKit Go.Proofs.YtjllbkeobibnkaaDoorW.PrintWords
section
variable {P : Program} {ops : Array Oper} {rest : List Oper} {o : Oper} {a : Act} {W : World} {Q : Exit → Act → World → Prop}
/-- The cells cs lie at ad. -/
def At (W : World) (ad : Addr) (cs : List Value) : Prop := ∀ (j : Nat) (u : Value), cs[j]? = some u → W.cell? (ad.add j) = some u
theorem add_zero_ (ad : Addr) : ad.add 0 = ad := by unfold Addr.add; split <;> simp_all
theorem add_at (g i j : Nat) : (⟨g, i, none⟩ : Addr).add j = ⟨g, i + j, none⟩ := by unfold Addr.add; split <;> simp_all
theorem At_box {g : Nat} {cs : Array Value} {t : TypeId} (h : W.heap[g]? = some (.cells cs t (0, 0))) : At W ⟨g, 0, none⟩ cs.toList := fun j u hj => by
  rw [add_at, Nat.zero_add, blk_cell h]
  simpa using hj
theorem At_seg {g i : Nat} {cs : Array Value} {t : TypeId} {l : List Value} (h : W.heap[g]? = some (.cells cs t (0, 0))) (hl : ∀ (j : Nat) (u : Value), l[j]? = some u → cs[i + j]? = some u) : At W ⟨g, i, none⟩ l := fun j u hj => by
  rw [add_at, blk_cell h]
  exact hl j u hj
theorem run_loadVar_at {ty : TypeId} {ad : Addr} {cs : List Value} {d : TypeDesc} (hc : At W ad cs) (hu : P.underlying ty = some d) (hd : (match d with | .struct _ | .array _ _ => true | _ => false) = true) (hi : (P.info? ty).map (·.size) = some cs.length) :
    (loadVar ty ad).run P W = .ok (.agg cs.toArray) W := by
  have hl : (loadCells ad cs.length).run P W = .ok cs.toArray W := run_loadCells_list (P := P) W ad cs hc
  cases hq : P.info? ty with
  | none => simp [hq] at hi
  | some i =>
    have hs : i.size = cs.length := by simpa [hq] using hi
    have hagg : (isAgg ty).run P W = .ok true W := by
      unfold isAgg
      rw [Sem.run_bind, run_underlying hu W]
      cases d <;> simp_all
    simp [loadVar, Sem.run_bind, hagg, sizeOf, typeInfo, hq, hs, hl]
/-- A struct, or an array, is read whole. -/
theorem seg_load (hgd : o.guard = none) (ty : TypeId) (x : Operand) (ho : o.op = .load ty x) {ad : Addr} {cs : List Value} (hc : At W ad cs) (arr : Array Value) (harr : arr = cs.toArray)
    (hx : a.eval x = .pointer (some ad)) {d : TypeDesc} (hu : P.underlying ty = some d) (hd : (match d with | .struct _ | .array _ _ => true | _ => false) = true)
    (hi : (P.info? ty).map (·.size) = some cs.length) (h : wpList P ops Q rest (a.put o.dst (.agg arr)) W) : wpList P ops Q (o :: rest) a W := by
  subst harr
  refine wpList_plain hgd fun K hK => ?_
  unfold Oper.wp execOp
  simp only [ho, hx, Instr.loadAt, Instr.sureAddr, Sem.run_bind, Sem.run_pure, Result.andThen_ok, run_loadVar_at hc hu hd hi]
  exact hK _ _ h
end
end Go.Proofs.YtjllbkeobibnkaaDoorK

namespace Go.Proofs.YtjllbkeobibnkaaDoor.Q
open Go.RowKit Go.Proofs.YtjllbkeobibnkaaDoorW.PrintWords Go.Proofs.YtjllbkeobibnkaaDoorW.PrintLast Go.Proofs.YtjllbkeobibnkaaDoorW.PrintMore
attribute [local go_sem] max2_int min2_int max_two min_two max_three min_three max_four min_four   -- for this text's walks alone
attribute [local go_sem ↓] Go.Proofs.YtjllbkeobibnkaaDoorK.isSome_setCell
set_option linter.unusedVariables false
set_option linter.unusedSimpArgs false



def errW : Option Int → Value
  | none => .nilIface
  | some c => .iface 0 (.int .i64 c)
theorem errW_none : errW none = .nilIface := rfl
theorem errW_some (c : Int) : errW (some c) = .iface 0 (.int .i64 c) := rfl

theorem info9 : (Tryd.prog.info? 9).map (fun i => (i.zero, i.size, i.bytes)) = some (some (.string ⟨#[]⟩), 1, 16) := by kernel_rfl
end Go.Proofs.YtjllbkeobibnkaaDoor.Q

namespace Go.Proofs.YtjllbkeobibnkaaDoor.Q
open Go Go.Proofs Go.RowKit Go.Proofs.YtjllbkeobibnkaaDoorK Go.Proofs.YtjllbkeobibnkaaDoorW.PrintWords Go.Proofs.YtjllbkeobibnkaaDoorW.PrintLast Go.Proofs.YtjllbkeobibnkaaDoorW.PrintMore
set_option linter.unusedSimpArgs false
set_option linter.unusedVariables false
/-- api.Arch: a version, a size, a sum. -/
structure S51 where
  f0 : Int
  f1 : Int
  f2 : Sum
def z51 : S51 := ⟨0, 0, sum0⟩
def L51 (x : S51) : List Value := .int .i64 x.f0 :: .int .i64 x.f1 :: sumL x.f2
def A51 (x : S51) : Array Value := (L51 x).toArray
theorem L51_len (x : S51) : (L51 x).length = 34 := by simp [L51, sumL_len]
theorem A51_size (x : S51) : (A51 x).size = 34 := by simp [A51, L51_len]
theorem A51_list (x : S51) : (A51 x).toList = L51 x := by simp [A51]
theorem A51_0 (x : S51) : (A51 x)[0]? = some (.int .i64 x.f0) := by simp [A51, L51]
theorem A51_1 (x : S51) : (A51 x)[1]? = some (.int .i64 x.f1) := by simp [A51, L51]
theorem A51_g0 (x : S51) (h : 0 < (A51 x).size) : (A51 x)[0] = .int .i64 x.f0 := by have := A51_0 x; rw [Array.getElem?_eq_getElem h] at this; exact Option.some.inj this
theorem A51_g1 (x : S51) (h : 1 < (A51 x).size) : (A51 x)[1] = .int .i64 x.f1 := by have := A51_1 x; rw [Array.getElem?_eq_getElem h] at this; exact Option.some.inj this
theorem A51_sum (x : S51) (j : Nat) (u : Value) (h : (sumL x.f2)[j]? = some u) : (A51 x)[2 + j]? = some u := by
  simp only [A51, L51, List.getElem?_toArray]
  rw [Nat.add_comm]
  exact h
theorem sumL_one (s : Sum) : ∀ v ∈ sumL s, v.oneCell' = true := by
  intro v hv
  obtain ⟨b, _, rfl⟩ := List.mem_map.1 hv
  rfl
theorem L51_one (x : S51) : ∀ v ∈ L51 x, v.oneCell' = true := by
  intro v hv
  unfold L51 at hv
  rcases List.mem_cons.1 hv with rfl | hv
  · rfl
  · rcases List.mem_cons.1 hv with rfl | hv
    · rfl
    · exact sumL_one _ v hv
theorem info51s : (Tryd.prog.info? 51).map (·.size) = some 34 := by kernel_rfl
theorem info49s : (Tryd.prog.info? 49).map (·.size) = some 32 := by kernel_rfl
/-- api.Known: a path, and what is known of it. -/
structure S58 where
  f0 : ByteArray
  f1 : S51
def z58 : S58 := ⟨⟨#[]⟩, z51⟩
def L58 (x : S58) : List Value := .string x.f0 :: L51 x.f1
def A58 (x : S58) : Array Value := (L58 x).toArray
theorem L58_len (x : S58) : (L58 x).length = 35 := by simp [L58, L51_len]
theorem A58_size (x : S58) : (A58 x).size = 35 := by simp [A58, L58_len]
theorem A58_list (x : S58) : (A58 x).toList = L58 x := by simp [A58]
theorem A58_0 (x : S58) : (A58 x)[0]? = some (.string x.f0) := by simp [A58, L58]
theorem A58_1 (x : S58) : (A58 x)[1]? = some (.int .i64 x.f1.f0) := by simp [A58, L58, L51]
theorem A58_2 (x : S58) : (A58 x)[2]? = some (.int .i64 x.f1.f1) := by simp [A58, L58, L51]
theorem A58_g0 (x : S58) (h : 0 < (A58 x).size) : (A58 x)[0] = .string x.f0 := by have := A58_0 x; rw [Array.getElem?_eq_getElem h] at this; exact Option.some.inj this
theorem A58_g1 (x : S58) (h : 1 < (A58 x).size) : (A58 x)[1] = .int .i64 x.f1.f0 := by have := A58_1 x; rw [Array.getElem?_eq_getElem h] at this; exact Option.some.inj this
theorem A58_g2 (x : S58) (h : 2 < (A58 x).size) : (A58 x)[2] = .int .i64 x.f1.f1 := by have := A58_2 x; rw [Array.getElem?_eq_getElem h] at this; exact Option.some.inj this
theorem A58_arch (x : S58) (j : Nat) (u : Value) (h : (L51 x.f1)[j]? = some u) : (A58 x)[1 + j]? = some u := by
  simp only [A58, L58, List.getElem?_toArray]
  rw [Nat.add_comm]
  exact h
theorem L58_one (x : S58) : ∀ v ∈ L58 x, v.oneCell' = true := by
  intro v hv
  unfold L58 at hv
  rcases List.mem_cons.1 hv with rfl | hv
  · rfl
  · exact L51_one _ v hv
theorem info58s : (Tryd.prog.info? 58).map (·.size) = some 35 := by kernel_rfl
def k58 : Kd S58 where
  sz := 35
  E := []
  K := fun _ x cs => cs = L58 x
  M := fun _ _ _ x cs => cs = L58 x
  K_len := fun h => by rw [h, L58_len]
  K_one := fun h u hu => by rw [h] at hu; exact L58_one _ u hu
  K_below := fun _ h => h
  K_of_M := fun h => h
  M_mono := fun _ h => h
  M_bound := fun h => h
  M_move := fun _ h => h
  M_lower := fun _ h => h
theorem C58_at {w : World} {A : Option Addr} {l : List S58} (h : k58.C w A l.length l) (j : Nat) (hj : j < l.length) : ∃ ad, A = some ad ∧ At w (ad.add (j * 35)) (L58 l[j]) := by
  obtain ⟨ad, e, hc⟩ := h.2.2 (by omega)
  obtain ⟨c, h1, h2, h3⟩ := hc j l[j] (List.getElem?_eq_getElem hj)
  refine ⟨ad, e, fun i u hi => ?_⟩
  rw [Go.Deep.add_add]
  exact h3 i u (by rw [show c = L58 l[j] from h2]; exact hi)
theorem At_below {w w' : World} {ad : Addr} {cs : List Value} (h : At w ad cs) (hb : Below w.heap.size w w') : At w' ad cs := fun j u hj => by
  have h1 := h j u hj
  exact (hb.cell (World.block_lt_of_cell? w _ h1)).trans h1
/-- Its cells, one by one; what it holds of sums, whole. -/
theorem At58 {w : World} {ad : Addr} {x : S58} (h : At w ad (L58 x)) : w.cell? (ad.add 0) = some (.string x.f0) ∧ w.cell? (ad.add 1) = some (.int .i64 x.f1.f0) ∧ w.cell? (ad.add 2) = some (.int .i64 x.f1.f1) ∧ At w (ad.add 1) (L51 x.f1) ∧ At w (ad.add 3) (sumL x.f1.f2) := by
  refine ⟨h 0 _ rfl, h 1 _ rfl, h 2 _ rfl, fun j u hj => ?_, fun j u hj => ?_⟩
  · rw [Go.Deep.add_add]
    exact h (1 + j) u (by rw [Nat.add_comm]; exact hj)
  · rw [Go.Deep.add_add]
    exact h (3 + j) u (by rw [Nat.add_comm]; exact hj)
/-- merge.state: what all sides have of a path. -/
structure S65 where
  a : S51
  l : S51
  r : S51
  inA : Bool
  inL : Bool
  inR : Bool
  here : Bool
  there : Bool
def z65 : S65 := ⟨z51, z51, z51, false, false, false, false, false⟩
def L65 (x : S65) : List Value := L51 x.a ++ (L51 x.l ++ (L51 x.r ++ [.bool x.inA, .bool x.inL, .bool x.inR, .bool x.here, .bool x.there]))
def A65 (x : S65) : Array Value := (L65 x).toArray
theorem L65_len (x : S65) : (L65 x).length = 107 := by simp [L65, L51_len]
theorem A65_size (x : S65) : (A65 x).size = 107 := by simp [A65, L65_len]
theorem A65_list (x : S65) : (A65 x).toList = L65 x := by simp [A65]
theorem L65_a (x : S65) (j : Nat) (u : Value) (h : (L51 x.a)[j]? = some u) : (A65 x)[0 + j]? = some u := by
  have hl := (List.getElem?_eq_some_iff.1 h).1
  simp only [A65, L65, List.getElem?_toArray, Nat.zero_add]
  rw [List.getElem?_append_left hl]
  exact h
theorem L65_l (x : S65) (j : Nat) (u : Value) (h : (L51 x.l)[j]? = some u) : (A65 x)[34 + j]? = some u := by
  have hl := (List.getElem?_eq_some_iff.1 h).1
  simp only [A65, L65, List.getElem?_toArray]
  rw [List.getElem?_append_right (by rw [L51_len]; omega), L51_len, Nat.add_sub_cancel_left, List.getElem?_append_left hl]
  exact h
theorem L65_r (x : S65) (j : Nat) (u : Value) (h : (L51 x.r)[j]? = some u) : (A65 x)[68 + j]? = some u := by
  have hl := (List.getElem?_eq_some_iff.1 h).1
  simp only [A65, L65, List.getElem?_toArray]
  rw [List.getElem?_append_right (by rw [L51_len]; omega), L51_len, List.getElem?_append_right (by rw [L51_len]; omega), L51_len, show 68 + j - 34 - 34 = j by omega, List.getElem?_append_left hl]
  exact h
theorem L65_b (x : S65) (j : Nat) : (A65 x)[102 + j]? = [Value.bool x.inA, .bool x.inL, .bool x.inR, .bool x.here, .bool x.there][j]? := by
  simp only [A65, L65, List.getElem?_toArray]
  rw [List.getElem?_append_right (by rw [L51_len]; omega), L51_len, List.getElem?_append_right (by rw [L51_len]; omega), L51_len, List.getElem?_append_right (by rw [L51_len]; omega), L51_len, show 102 + j - 34 - 34 - 34 = j by omega]
theorem A65_0 (x : S65) : (A65 x)[0]? = some (.int .i64 x.a.f0) := L65_a x 0 _ rfl
theorem A65_34 (x : S65) : (A65 x)[34]? = some (.int .i64 x.l.f0) := L65_l x 0 _ rfl
theorem A65_68 (x : S65) : (A65 x)[68]? = some (.int .i64 x.r.f0) := L65_r x 0 _ rfl
theorem A65_102 (x : S65) : (A65 x)[102]? = some (.bool x.inA) := L65_b x 0
theorem A65_103 (x : S65) : (A65 x)[103]? = some (.bool x.inL) := L65_b x 1
theorem A65_104 (x : S65) : (A65 x)[104]? = some (.bool x.inR) := L65_b x 2
theorem A65_105 (x : S65) : (A65 x)[105]? = some (.bool x.here) := L65_b x 3
theorem A65_106 (x : S65) : (A65 x)[106]? = some (.bool x.there) := L65_b x 4
theorem A65_get {x : S65} {i : Nat} {v : Value} (h : (A65 x)[i]? = some v) (hi : i < (A65 x).size) : (A65 x)[i] = v := by rw [Array.getElem?_eq_getElem hi] at h; exact Option.some.inj h
theorem A65_g0 (x : S65) (h : 0 < (A65 x).size) : (A65 x)[0] = .int .i64 x.a.f0 := A65_get (A65_0 x) h
theorem A65_g34 (x : S65) (h : 34 < (A65 x).size) : (A65 x)[34] = .int .i64 x.l.f0 := A65_get (A65_34 x) h
theorem A65_g68 (x : S65) (h : 68 < (A65 x).size) : (A65 x)[68] = .int .i64 x.r.f0 := A65_get (A65_68 x) h
theorem A65_g102 (x : S65) (h : 102 < (A65 x).size) : (A65 x)[102] = .bool x.inA := A65_get (A65_102 x) h
theorem A65_g103 (x : S65) (h : 103 < (A65 x).size) : (A65 x)[103] = .bool x.inL := A65_get (A65_103 x) h
theorem A65_g104 (x : S65) (h : 104 < (A65 x).size) : (A65 x)[104] = .bool x.inR := A65_get (A65_104 x) h
theorem A65_g105 (x : S65) (h : 105 < (A65 x).size) : (A65 x)[105] = .bool x.here := A65_get (A65_105 x) h
theorem A65_g106 (x : S65) (h : 106 < (A65 x).size) : (A65 x)[106] = .bool x.there := A65_get (A65_106 x) h
/-- A part of it is written. -/
theorem set_a (x : S65) (v : S51) : (A65 { x with a := v }).toList = (A65 x).toList.take 0 ++ (A51 v).toList ++ (A65 x).toList.drop (0 + (A51 v).size) := by
  rw [A51_size, A65_list, A65_list, A51_list]
  simp only [L65, List.take_zero, List.nil_append, Nat.zero_add]
  rw [show (34 : Nat) = (L51 x.a).length by rw [L51_len], List.drop_left]
theorem set_l (x : S65) (v : S51) : (A65 { x with l := v }).toList = (A65 x).toList.take 34 ++ (A51 v).toList ++ (A65 x).toList.drop (34 + (A51 v).size) := by
  rw [A51_size, A65_list, A65_list, A51_list]
  simp only [L65]
  have e1 : (34 : Nat) = (L51 x.a).length := by rw [L51_len]
  have e2 : (34 : Nat) = (L51 x.l).length := by rw [L51_len]
  conv => rhs; rw [← List.drop_drop]
  rw [show List.take 34 (L51 x.a ++ (L51 x.l ++ (L51 x.r ++ [Value.bool x.inA, .bool x.inL, .bool x.inR, .bool x.here, .bool x.there]))) = L51 x.a by conv => lhs; rw [e1, List.take_left]]
  rw [show List.drop 34 (L51 x.a ++ (L51 x.l ++ (L51 x.r ++ [Value.bool x.inA, .bool x.inL, .bool x.inR, .bool x.here, .bool x.there]))) = L51 x.l ++ (L51 x.r ++ [Value.bool x.inA, .bool x.inL, .bool x.inR, .bool x.here, .bool x.there]) by conv => lhs; rw [e1, List.drop_left]]
  conv => rhs; rw [e2, List.drop_left]
  rw [List.append_assoc]
theorem set_r (x : S65) (v : S51) : (A65 { x with r := v }).toList = (A65 x).toList.take 68 ++ (A51 v).toList ++ (A65 x).toList.drop (68 + (A51 v).size) := by
  rw [A51_size, A65_list, A65_list, A51_list]
  have e1 : (L51 x.a ++ L51 x.l).length = 68 := by simp [L51_len]
  have e3 : (L51 x.a ++ L51 x.l ++ L51 x.r).length = 68 + 34 := by simp [L51_len]
  have h1 : L65 x = (L51 x.a ++ L51 x.l) ++ (L51 x.r ++ [Value.bool x.inA, .bool x.inL, .bool x.inR, .bool x.here, .bool x.there]) := by simp [L65]
  have h2 : L65 x = (L51 x.a ++ L51 x.l ++ L51 x.r) ++ [Value.bool x.inA, .bool x.inL, .bool x.inR, .bool x.here, .bool x.there] := by simp [L65]
  conv => rhs; lhs; rw [h1, ← e1, List.take_left]
  conv => rhs; rhs; rw [h2, ← e3, List.drop_left]
  simp [L65]
theorem set_flag (x y : S65) (i : Nat) (b : Bool) (hi : i < 5) (h : [Value.bool y.inA, .bool y.inL, .bool y.inR, .bool y.here, .bool y.there] = [Value.bool x.inA, .bool x.inL, .bool x.inR, .bool x.here, .bool x.there].set i (.bool b)) (ha : y.a = x.a) (hl : y.l = x.l) (hr : y.r = x.r) :
    (A65 x).setIfInBounds (102 + i) (.bool b) = A65 y := by
  apply Array.toList_inj.1
  rw [Array.toList_setIfInBounds, A65_list, A65_list]
  unfold L65
  rw [ha, hl, hr, h, List.set_append_right _ _ (by rw [L51_len]; omega), L51_len, List.set_append_right _ _ (by rw [L51_len]; omega), L51_len, List.set_append_right _ _ (by rw [L51_len]; omega), L51_len, show 102 + i - 34 - 34 - 34 = i by omega]
theorem set_inA (x : S65) (b : Bool) : (A65 x).setIfInBounds 102 (.bool b) = A65 { x with inA := b } := set_flag x _ 0 b (by decide) rfl rfl rfl rfl
theorem set_inL (x : S65) (b : Bool) : (A65 x).setIfInBounds 103 (.bool b) = A65 { x with inL := b } := set_flag x _ 1 b (by decide) rfl rfl rfl rfl
theorem set_inR (x : S65) (b : Bool) : (A65 x).setIfInBounds 104 (.bool b) = A65 { x with inR := b } := set_flag x _ 2 b (by decide) rfl rfl rfl rfl
theorem set_here (x : S65) (b : Bool) : (A65 x).setIfInBounds 105 (.bool b) = A65 { x with here := b } := set_flag x _ 3 b (by decide) rfl rfl rfl rfl
theorem set_there (x : S65) (b : Bool) : (A65 x).setIfInBounds 106 (.bool b) = A65 { x with there := b } := set_flag x _ 4 b (by decide) rfl rfl rfl rfl
theorem L65_one (x : S65) : ∀ v ∈ L65 x, v.oneCell' = true := by
  intro v hv
  unfold L65 at hv
  rcases List.mem_append.1 hv with hv | hv
  · exact L51_one _ v hv
  · rcases List.mem_append.1 hv with hv | hv
    · exact L51_one _ v hv
    · rcases List.mem_append.1 hv with hv | hv
      · exact L51_one _ v hv
      · simp at hv
        rcases hv with rfl | rfl | rfl | rfl | rfl <;> rfl
theorem info65s : (Tryd.prog.info? 65).map (·.size) = some 107 := by kernel_rfl
/-- api.Sides: three lists. -/
structure S24 where
  f0 : List S58
  f1 : List S58
  f2 : List S58
/-- A list as a side's, by value. -/
structure Row (w : World) (v : Value) (l : List S58) : Prop where
  out : ∃ A c, v = .slice A l.length c ∧ l.length ≤ c ∧ k58.C w A l.length l
theorem Row.below {w w' : World} {v : Value} {l : List S58} (h : Row w v l) (hb : Below w.heap.size w w') : Row w' v l := by
  obtain ⟨A, c, h1, h2, h3⟩ := h.out
  exact ⟨⟨A, c, h1, h2, Kd.C_below h3 hb⟩⟩
end Go.Proofs.YtjllbkeobibnkaaDoor.Q

namespace Go.Proofs.YtjllbkeobibnkaaDoor.Q
open Go Go.Proofs Go.RowKit Go.Proofs.YtjllbkeobibnkaaDoorK Go.Proofs.YtjllbkeobibnkaaDoorW.PrintWords Go.Proofs.YtjllbkeobibnkaaDoorW.PrintLast Go.Proofs.YtjllbkeobibnkaaDoorW.PrintMore
set_option linter.unusedSimpArgs false
set_option linter.unusedVariables false
theorem A51_all (x : S51) : (A51 x).toList.all (·.oneCell') = true := by rw [A51_list]; exact List.all_eq_true.2 (L51_one x)
theorem A58_all (x : S58) : (A58 x).toList.all (·.oneCell') = true := by rw [A58_list]; exact List.all_eq_true.2 (L58_one x)
theorem A65_all (x : S65) : (A65 x).toList.all (·.oneCell') = true := by rw [A65_list]; exact List.all_eq_true.2 (L65_one x)
theorem zero51 : (#[.int .i64 0, .int .i64 0, .int .u8 0, .int .u8 0, .int .u8 0, .int .u8 0, .int .u8 0, .int .u8 0, .int .u8 0, .int .u8 0, .int .u8 0, .int .u8 0, .int .u8 0, .int .u8 0, .int .u8 0, .int .u8 0, .int .u8 0, .int .u8 0, .int .u8 0, .int .u8 0, .int .u8 0, .int .u8 0, .int .u8 0, .int .u8 0, .int .u8 0, .int .u8 0, .int .u8 0, .int .u8 0, .int .u8 0, .int .u8 0, .int .u8 0, .int .u8 0, .int .u8 0, .int .u8 0] : Array Value) = A51 z51 := by kernel_rfl
theorem zero58 : (#[.string ⟨#[]⟩, .int .i64 0, .int .i64 0, .int .u8 0, .int .u8 0, .int .u8 0, .int .u8 0, .int .u8 0, .int .u8 0, .int .u8 0, .int .u8 0, .int .u8 0, .int .u8 0, .int .u8 0, .int .u8 0, .int .u8 0, .int .u8 0, .int .u8 0, .int .u8 0, .int .u8 0, .int .u8 0, .int .u8 0, .int .u8 0, .int .u8 0, .int .u8 0, .int .u8 0, .int .u8 0, .int .u8 0, .int .u8 0, .int .u8 0, .int .u8 0, .int .u8 0, .int .u8 0, .int .u8 0, .int .u8 0] : Array Value) = A58 z58 := by kernel_rfl
theorem zero65 : Tryd.zeroCells65 = A65 z65 := by kernel_rfl
section
variable {w : World} {g : Nat} {t : TypeId}
/-- a load, by a name of our own: the walk turns a load into it, and so leaves it whole -/
def lvx (t : TypeId) (a : Addr) : Sem Value := loadVar t a
theorem lvx_of (t : TypeId) (a : Addr) : loadVar t a = lvx t a := rfl
theorem lv51 {x : S51} [h : Go.Proofs.YtjllbkeobibnkaaDoorK.Holds w g (.cells (A51 x) t (0, 0))] : (lvx 51 ⟨g, 0, none⟩).run Tryd.prog w = .ok (.agg (A51 x)) w :=
  run_loadVar_at (cs := L51 x) (by have := At_box h.out; rwa [A51_list] at this) Tryd.underlying51 rfl (by rw [L51_len]; exact info51s)
theorem lv51s {x : S51} [h : Go.Proofs.YtjllbkeobibnkaaDoorK.Holds w g (.cells (A51 x) t (0, 0))] : (lvx 49 ⟨g, 2, none⟩).run Tryd.prog w = .ok (.agg (sumL x.f2).toArray) w :=
  run_loadVar_at (cs := sumL x.f2) (At_seg h.out (fun j u h => A51_sum x j u h)) Tryd.underlying49 rfl (by rw [sumL_len]; exact info49s)
theorem lv58 {x : S58} [h : Go.Proofs.YtjllbkeobibnkaaDoorK.Holds w g (.cells (A58 x) t (0, 0))] : (lvx 58 ⟨g, 0, none⟩).run Tryd.prog w = .ok (.agg (A58 x)) w :=
  run_loadVar_at (cs := L58 x) (by have := At_box h.out; rwa [A58_list] at this) Tryd.underlying58 rfl (by rw [L58_len]; exact info58s)
theorem lv58a {x : S58} [h : Go.Proofs.YtjllbkeobibnkaaDoorK.Holds w g (.cells (A58 x) t (0, 0))] : (lvx 51 ⟨g, 1, none⟩).run Tryd.prog w = .ok (.agg (A51 x.f1)) w :=
  run_loadVar_at (cs := L51 x.f1) (At_seg h.out (fun j u h => A58_arch x j u h)) Tryd.underlying51 rfl (by rw [L51_len]; exact info51s)
theorem lv65 {x : S65} [h : Go.Proofs.YtjllbkeobibnkaaDoorK.Holds w g (.cells (A65 x) t (0, 0))] : (lvx 65 ⟨g, 0, none⟩).run Tryd.prog w = .ok (.agg (A65 x)) w :=
  run_loadVar_at (cs := L65 x) (by have := At_box h.out; rwa [A65_list] at this) Tryd.underlying65 rfl (by rw [L65_len]; exact info65s)
theorem lv65a {x : S65} [h : Go.Proofs.YtjllbkeobibnkaaDoorK.Holds w g (.cells (A65 x) t (0, 0))] : (lvx 51 ⟨g, 0, none⟩).run Tryd.prog w = .ok (.agg (A51 x.a)) w :=
  run_loadVar_at (cs := L51 x.a) (At_seg h.out (fun j u h => L65_a x j u h)) Tryd.underlying51 rfl (by rw [L51_len]; exact info51s)
theorem lv65l {x : S65} [h : Go.Proofs.YtjllbkeobibnkaaDoorK.Holds w g (.cells (A65 x) t (0, 0))] : (lvx 51 ⟨g, 34, none⟩).run Tryd.prog w = .ok (.agg (A51 x.l)) w :=
  run_loadVar_at (cs := L51 x.l) (At_seg h.out (fun j u h => L65_l x j u h)) Tryd.underlying51 rfl (by rw [L51_len]; exact info51s)
theorem lv65r {x : S65} [h : Go.Proofs.YtjllbkeobibnkaaDoorK.Holds w g (.cells (A65 x) t (0, 0))] : (lvx 51 ⟨g, 68, none⟩).run Tryd.prog w = .ok (.agg (A51 x.r)) w :=
  run_loadVar_at (cs := L51 x.r) (At_seg h.out (fun j u h => L65_r x j u h)) Tryd.underlying51 rfl (by rw [L51_len]; exact info51s)
/-- A load is opened only where it is of one cell, or of a small struct. -/
theorem lv_sc {P : Program} {ty : TypeId} {a : Addr} (h : (isAgg ty).run P w = .ok false w) : (lvx ty a).run P w = (load a).run P w := by
  unfold lvx loadVar
  rw [Sem.run_bind, h]
  rfl
theorem lv24 {P : Program} {a : Addr} : (lvx 24 a).run P w = (do if ← isAgg 24 then pure (.agg (← loadCells a (← sizeOf 24))) else load a : Sem Value).run P w := rfl
theorem lv33 {P : Program} {a : Addr} : (lvx 33 a).run P w = (do if ← isAgg 33 then pure (.agg (← loadCells a (← sizeOf 33))) else load a : Sem Value).run P w := rfl
theorem scf {P : Program} {off : Nat} {old new cells : Array Value} (h : w.heap[g]? = some (.cells old t (0, 0))) (hfit : off + cells.size ≤ old.size) (h1 : cells.toList.all (·.oneCell') = true) (hnew : new.toList = old.toList.take off ++ cells.toList ++ old.toList.drop (off + cells.size)) :
    (storeCells ⟨g, off, none⟩ cells.toList 0).run P w = .ok () (w.setRow g new) := by
  have hst := run_storeCells_at P g off t cells.toList 0 old w h (by simpa using hfit) (List.all_eq_true.1 h1)
  simp only [Nat.add_zero, Array.length_toList] at hst
  rw [← hnew, Array.toArray_toList] at hst
  exact hst
theorem sc51 {old : Array Value} {x : S51} [h : Go.Proofs.YtjllbkeobibnkaaDoorK.Holds w g (.cells old t (0, 0))] (hs : old.size = 34) : (storeCells ⟨g, 0, none⟩ (A51 x).toList 0).run Tryd.prog w = .ok () (w.setRow g (A51 x)) :=
  scf h.out (by rw [A51_size, hs]; decide) (A51_all x) (by rw [List.take_zero, List.nil_append, List.drop_of_length_le (by rw [A51_size, Array.length_toList, hs]; decide), List.append_nil])
theorem sc58 {old : Array Value} {x : S58} [h : Go.Proofs.YtjllbkeobibnkaaDoorK.Holds w g (.cells old t (0, 0))] (hs : old.size = 35) : (storeCells ⟨g, 0, none⟩ (A58 x).toList 0).run Tryd.prog w = .ok () (w.setRow g (A58 x)) :=
  scf h.out (by rw [A58_size, hs]; decide) (A58_all x) (by rw [List.take_zero, List.nil_append, List.drop_of_length_le (by rw [A58_size, Array.length_toList, hs]; decide), List.append_nil])
theorem sc65 {old : Array Value} {x : S65} [h : Go.Proofs.YtjllbkeobibnkaaDoorK.Holds w g (.cells old t (0, 0))] (hs : old.size = 107) : (storeCells ⟨g, 0, none⟩ (A65 x).toList 0).run Tryd.prog w = .ok () (w.setRow g (A65 x)) :=
  scf h.out (by rw [A65_size, hs]; decide) (A65_all x) (by rw [List.take_zero, List.nil_append, List.drop_of_length_le (by rw [A65_size, Array.length_toList, hs]; decide), List.append_nil])
theorem sc65a {y : S65} {x : S51} [h : Go.Proofs.YtjllbkeobibnkaaDoorK.Holds w g (.cells (A65 y) t (0, 0))] : (storeCells ⟨g, 0, none⟩ (A51 x).toList 0).run Tryd.prog w = .ok () (w.setRow g (A65 { y with a := x })) :=
  scf h.out (by rw [A51_size, A65_size]; decide) (A51_all x) (set_a y x)
theorem sc65l {y : S65} {x : S51} [h : Go.Proofs.YtjllbkeobibnkaaDoorK.Holds w g (.cells (A65 y) t (0, 0))] : (storeCells ⟨g, 34, none⟩ (A51 x).toList 0).run Tryd.prog w = .ok () (w.setRow g (A65 { y with l := x })) :=
  scf h.out (by rw [A51_size, A65_size]; decide) (A51_all x) (set_l y x)
theorem sc65r {y : S65} {x : S51} [h : Go.Proofs.YtjllbkeobibnkaaDoorK.Holds w g (.cells (A65 y) t (0, 0))] : (storeCells ⟨g, 68, none⟩ (A51 x).toList 0).run Tryd.prog w = .ok () (w.setRow g (A65 { y with r := x })) :=
  scf h.out (by rw [A51_size, A65_size]; decide) (A51_all x) (set_r y x)
theorem sc58a {y : S58} {x : S51} [h : Go.Proofs.YtjllbkeobibnkaaDoorK.Holds w g (.cells (A58 y) t (0, 0))] : (storeCells ⟨g, 1, none⟩ (A51 x).toList 0).run Tryd.prog w = .ok () (w.setRow g (A58 { y with f1 := x })) :=
  scf h.out (by rw [A51_size, A58_size]; decide) (A51_all x) (by
    rw [List.drop_of_length_le (by rw [A51_size, Array.length_toList, A58_size]; decide), List.append_nil, A58_list, A58_list, A51_list]
    rfl)
end
instance (W : World) (g : Nat) (cs : Array Value) : Prev (W.setRow g cs) W (.row g) := ⟨kept_row (grown_setRow W g cs)⟩
instance (W : World) (g : Nat) (old cs : Array Value) (t : TypeId) [h : Go.Proofs.YtjllbkeobibnkaaDoorK.Holds W g (.cells old t (0, 0))] : Go.Proofs.YtjllbkeobibnkaaDoorK.Holds (W.setRow g cs) g (.cells cs t (0, 0)) := ⟨setRow_heap W g old cs t (0, 0) h.out⟩
instance (n : Nat) : Apart n (.row (n + 1 + 1)) := ⟨by show n ≠ n + 1 + 1; omega⟩
instance (n : Nat) : Apart n (.row (n + 1 + 1 + 1)) := ⟨by show n ≠ n + 1 + 1 + 1; omega⟩
instance (n : Nat) : Apart n (.row (n + 1 + 1 + 1 + 1)) := ⟨by show n ≠ n + 1 + 1 + 1 + 1; omega⟩
instance (n : Nat) : OwnB n (.row (n + 1 + 1)) := own_row (by omega)
instance (n : Nat) : OwnB n (.row (n + 1 + 1 + 1)) := own_row (by omega)
theorem set51 (x : S51) (v : Int) : (A51 x).setIfInBounds 0 (.int .i64 v) = A51 { x with f0 := v } := by
  apply Array.toList_inj.1
  rw [Array.toList_setIfInBounds, A51_list, A51_list]
  rfl
theorem set58 (x : S58) (v : ByteArray) : (A58 x).setIfInBounds 0 (.string v) = A58 { x with f0 := v } := by
  apply Array.toList_inj.1
  rw [Array.toList_setIfInBounds, A58_list, A58_list]
  rfl
theorem set65l0 (x : S65) (v : Int) : (A65 x).setIfInBounds 34 (.int .i64 v) = A65 { x with l := { x.l with f0 := v } } := by
  apply Array.toList_inj.1
  rw [Array.toList_setIfInBounds, A65_list, A65_list]
  unfold L65
  rw [List.set_append_right _ _ (by rw [L51_len]; decide), L51_len, List.set_append_left _ _ (by rw [L51_len]; decide)]
  rfl
section
variable {W : World} {g : Nat} {t : TypeId}
theorem holds_set {cs ds : Array Value} {j : Nat} {v : Value} (h : Go.Proofs.YtjllbkeobibnkaaDoorK.Holds W g (.cells cs t (0, 0))) (e : cs.setIfInBounds j v = ds) : Go.Proofs.YtjllbkeobibnkaaDoorK.Holds (W.setCell ⟨g, j, none⟩ v) g (.cells ds t (0, 0)) := ⟨by have := blk_set h.out j v; rwa [e] at this⟩
instance (priority := high) {x : S51} {v : Int} [h : Go.Proofs.YtjllbkeobibnkaaDoorK.Holds W g (.cells (A51 x) t (0, 0))] : Go.Proofs.YtjllbkeobibnkaaDoorK.Holds (W.setCell ⟨g, 0, none⟩ (.int .i64 v)) g (.cells (A51 { x with f0 := v }) t (0, 0)) := holds_set h (set51 x v)
instance (priority := high) {x : S58} {v : ByteArray} [h : Go.Proofs.YtjllbkeobibnkaaDoorK.Holds W g (.cells (A58 x) t (0, 0))] : Go.Proofs.YtjllbkeobibnkaaDoorK.Holds (W.setCell ⟨g, 0, none⟩ (.string v)) g (.cells (A58 { x with f0 := v }) t (0, 0)) := holds_set h (set58 x v)
instance (priority := high) {x : S65} {v : Int} [h : Go.Proofs.YtjllbkeobibnkaaDoorK.Holds W g (.cells (A65 x) t (0, 0))] : Go.Proofs.YtjllbkeobibnkaaDoorK.Holds (W.setCell ⟨g, 34, none⟩ (.int .i64 v)) g (.cells (A65 { x with l := { x.l with f0 := v } }) t (0, 0)) := holds_set h (set65l0 x v)
instance (priority := high) {x : S65} {b : Bool} [h : Go.Proofs.YtjllbkeobibnkaaDoorK.Holds W g (.cells (A65 x) t (0, 0))] : Go.Proofs.YtjllbkeobibnkaaDoorK.Holds (W.setCell ⟨g, 102, none⟩ (.bool b)) g (.cells (A65 { x with inA := b }) t (0, 0)) := holds_set h (set_inA x b)
instance (priority := high) {x : S65} {b : Bool} [h : Go.Proofs.YtjllbkeobibnkaaDoorK.Holds W g (.cells (A65 x) t (0, 0))] : Go.Proofs.YtjllbkeobibnkaaDoorK.Holds (W.setCell ⟨g, 103, none⟩ (.bool b)) g (.cells (A65 { x with inL := b }) t (0, 0)) := holds_set h (set_inL x b)
instance (priority := high) {x : S65} {b : Bool} [h : Go.Proofs.YtjllbkeobibnkaaDoorK.Holds W g (.cells (A65 x) t (0, 0))] : Go.Proofs.YtjllbkeobibnkaaDoorK.Holds (W.setCell ⟨g, 104, none⟩ (.bool b)) g (.cells (A65 { x with inR := b }) t (0, 0)) := holds_set h (set_inR x b)
instance (priority := high) {x : S65} {b : Bool} [h : Go.Proofs.YtjllbkeobibnkaaDoorK.Holds W g (.cells (A65 x) t (0, 0))] : Go.Proofs.YtjllbkeobibnkaaDoorK.Holds (W.setCell ⟨g, 105, none⟩ (.bool b)) g (.cells (A65 { x with here := b }) t (0, 0)) := holds_set h (set_here x b)
instance (priority := high) {x : S65} {b : Bool} [h : Go.Proofs.YtjllbkeobibnkaaDoorK.Holds W g (.cells (A65 x) t (0, 0))] : Go.Proofs.YtjllbkeobibnkaaDoorK.Holds (W.setCell ⟨g, 106, none⟩ (.bool b)) g (.cells (A65 { x with there := b }) t (0, 0)) := holds_set h (set_there x b)
end
end Go.Proofs.YtjllbkeobibnkaaDoor.Q

namespace Go.Proofs.YtjllbkeobibnkaaDoorK
open Go Go.RowKit Go.Proofs.YtjllbkeobibnkaaDoorW.PrintWords
class Up (W W' : World) : Prop where
  out : Below W.heap.size W W'
variable {w W W' : World}
instance : Up W W := ⟨Below.refl _ _⟩
instance [h : Up W W'] (o : Obj) : Up W (W'.alloc o) := ⟨below_alloc h.out o⟩
instance [h : Up W W'] (n : Nat) : Up W (W'.drewN n) := ⟨pw_below_drewN h.out n⟩
instance [h : Up W W'] : Up W W'.drew := ⟨h.out.drew⟩
theorem belU (h : Below w.heap.size w W) [u : Up W W'] : Below w.heap.size w W' := below_step h u.out
theorem sizU (h : Below w.heap.size w W) [u : Up W W'] : w.heap.size ≤ W'.heap.size := (belU h).size
theorem RU {α : Type} {d : Kd α} {e base : Nat} {ok : Nat → Prop} {v : Value} {xs : List α} (h : d.R e W base ok v xs) [u : Up W W'] : d.R e W' base ok v xs := Kd.R_below h u.out
/-- .. and by stores into block g. -/
class UpG (g : Nat) (W W' : World) : Prop where
  out : ∀ w : World, w.heap.size ≤ g → Below w.heap.size w W → Below w.heap.size w W'
instance (g : Nat) : UpG g W W := ⟨fun _ _ h => h⟩
instance (g : Nat) [h : UpG g W W'] (o : Obj) : UpG g W (W'.alloc o) := ⟨fun w a b => below_alloc (h.out w a b) o⟩
instance (g : Nat) [h : UpG g W W'] (n : Nat) : UpG g W (W'.drewN n) := ⟨fun w a b => pw_below_drewN (h.out w a b) n⟩
instance (g : Nat) [h : UpG g W W'] : UpG g W W'.drew := ⟨fun w a b => (h.out w a b).drew⟩
instance (g j : Nat) (v : Value) [h : UpG g W W'] : UpG g W (W'.setCell ⟨g, j, none⟩ v) := ⟨fun w a b => below_set (h.out w a b) a⟩
theorem belG {g : Nat} (h : Below w.heap.size w W) (hg : w.heap.size ≤ g) [u : UpG g W W'] : Below w.heap.size w W' := u.out w hg h
class UpG2 (g1 g2 : Nat) (W W' : World) : Prop where
  out : ∀ w : World, w.heap.size ≤ g1 → w.heap.size ≤ g2 → Below w.heap.size w W → Below w.heap.size w W'
instance (g1 g2 : Nat) : UpG2 g1 g2 W W := ⟨fun _ _ _ h => h⟩
instance (g1 g2 : Nat) [h : UpG2 g1 g2 W W'] (o : Obj) : UpG2 g1 g2 W (W'.alloc o) := ⟨fun w a1 a2 b => below_alloc (h.out w a1 a2 b) o⟩
instance (g1 g2 : Nat) [h : UpG2 g1 g2 W W'] (n : Nat) : UpG2 g1 g2 W (W'.drewN n) := ⟨fun w a1 a2 b => pw_below_drewN (h.out w a1 a2 b) n⟩
instance (g1 g2 : Nat) [h : UpG2 g1 g2 W W']  : UpG2 g1 g2 W W'.drew := ⟨fun w a1 a2 b => (h.out w a1 a2 b).drew⟩
instance (g1 g2 j : Nat) (v : Value) [h : UpG2 g1 g2 W W'] : UpG2 g1 g2 W (W'.setCell ⟨g1, j, none⟩ v) := ⟨fun w a1 a2 b => below_set (h.out w a1 a2 b) a1⟩
instance (g1 g2 j : Nat) (v : Value) [h : UpG2 g1 g2 W W'] : UpG2 g1 g2 W (W'.setCell ⟨g2, j, none⟩ v) := ⟨fun w a1 a2 b => below_set (h.out w a1 a2 b) a2⟩
class UpG3 (g1 g2 g3 : Nat) (W W' : World) : Prop where
  out : ∀ w : World, w.heap.size ≤ g1 → w.heap.size ≤ g2 → w.heap.size ≤ g3 → Below w.heap.size w W → Below w.heap.size w W'
instance (g1 g2 g3 : Nat) : UpG3 g1 g2 g3 W W := ⟨fun _ _ _ _ h => h⟩
instance (g1 g2 g3 : Nat) [h : UpG3 g1 g2 g3 W W'] (o : Obj) : UpG3 g1 g2 g3 W (W'.alloc o) := ⟨fun w a1 a2 a3 b => below_alloc (h.out w a1 a2 a3 b) o⟩
instance (g1 g2 g3 : Nat) [h : UpG3 g1 g2 g3 W W'] (n : Nat) : UpG3 g1 g2 g3 W (W'.drewN n) := ⟨fun w a1 a2 a3 b => pw_below_drewN (h.out w a1 a2 a3 b) n⟩
instance (g1 g2 g3 : Nat) [h : UpG3 g1 g2 g3 W W']  : UpG3 g1 g2 g3 W W'.drew := ⟨fun w a1 a2 a3 b => (h.out w a1 a2 a3 b).drew⟩
instance (g1 g2 g3 j : Nat) (v : Value) [h : UpG3 g1 g2 g3 W W'] : UpG3 g1 g2 g3 W (W'.setCell ⟨g1, j, none⟩ v) := ⟨fun w a1 a2 a3 b => below_set (h.out w a1 a2 a3 b) a1⟩
instance (g1 g2 g3 j : Nat) (v : Value) [h : UpG3 g1 g2 g3 W W'] : UpG3 g1 g2 g3 W (W'.setCell ⟨g2, j, none⟩ v) := ⟨fun w a1 a2 a3 b => below_set (h.out w a1 a2 a3 b) a2⟩
instance (g1 g2 g3 j : Nat) (v : Value) [h : UpG3 g1 g2 g3 W W'] : UpG3 g1 g2 g3 W (W'.setCell ⟨g3, j, none⟩ v) := ⟨fun w a1 a2 a3 b => below_set (h.out w a1 a2 a3 b) a3⟩
/-- .. and by stores into another block than g. -/
class FarG (g g' : Nat) (W W' : World) : Prop where
  out : g ≠ g' → ∀ o : Obj, W.heap[g]? = some o → W'.heap[g]? = some o
instance (g g' : Nat) : FarG g g' W W := ⟨fun _ _ h => h⟩
instance (g g' : Nat) [h : FarG g g' W W'] (o : Obj) : FarG g g' W (W'.alloc o) := ⟨fun n x a => blk_alloc (h.out n x a) o⟩
instance (g g' : Nat) [h : FarG g g' W W'] (n : Nat) : FarG g g' W (W'.drewN n) := ⟨fun m x a => blk_drewN (h.out m x a) n⟩
instance (g g' : Nat) [h : FarG g g' W W'] : FarG g g' W W'.drew := ⟨fun n x a => blk_drew (h.out n x a)⟩
instance (g g' j : Nat) (v : Value) [h : FarG g g' W W'] : FarG g g' W (W'.setCell ⟨g', j, none⟩ v) := ⟨fun n x a => (Below.heap_setCell W' ⟨g', j, none⟩ v g n).trans (h.out n x a)⟩
/-- .. and the cells of block g, stored into one by one. -/
class PutG (g : Nat) (W W' : World) (f : outParam (List Value → List Value)) : Prop where
  out : ∀ (cs : Array Value) (t : TypeId), W.heap[g]? = some (.cells cs t (0, 0)) → W'.heap[g]? = some (.cells (f cs.toList).toArray t (0, 0))
section
variable {f : List Value → List Value}
instance (g : Nat) : PutG g W W (fun cs => cs) := ⟨fun _ _ h => h⟩
instance (g : Nat) [h : PutG g W W' f] (o : Obj) : PutG g W (W'.alloc o) f := ⟨fun cs t a => blk_alloc (h.out cs t a) o⟩
instance (g : Nat) [h : PutG g W W' f] (n : Nat) : PutG g W (W'.drewN n) f := ⟨fun cs t a => blk_drewN (h.out cs t a) n⟩
instance (g : Nat) [h : PutG g W W' f] : PutG g W W'.drew f := ⟨fun cs t a => blk_drew (h.out cs t a)⟩
instance (g j : Nat) (v : Value) [h : PutG g W W' f] : PutG g W (W'.setCell ⟨g, j, none⟩ v) (fun cs => (f cs).set j v) := ⟨fun cs t a => by
  have := blk_set (h.out cs t a) j v
  rwa [List.setIfInBounds_toArray] at this⟩
end
end Go.Proofs.YtjllbkeobibnkaaDoorK

namespace Go.Proofs.YtjllbkeobibnkaaDoorK
open Go Go.RowKit Go.Proofs.YtjllbkeobibnkaaDoorW.PrintWords
def SR {α : Type} (d : Kd α) (e : Nat) (w : World) (base : Nat) (ok : Nat → Prop) (v : Value) (xs : List α) : Prop :=
  (∀ k, v.ownBlock = some k → ok k ∧ base ≤ k ∧ k < w.heap.size) ∧ ∃ A c, v = .slice A xs.length c ∧ xs.length ≤ c ∧ d.C w A xs.length xs
section
variable {α : Type} {d : Kd α} {e : Nat} {w w1 : World} {base : Nat} {ok ok' : Nat → Prop} {v u : Value} {xs : List α}
theorem SR_ofR (h : d.R e w base ok v xs) : SR d e w base ok v xs := ⟨fun k hk => ⟨h.1 k hk, Kd.R_base h k hk, Kd.R_lt h k hk⟩, Kd.R_reads h⟩
/-- Either kind of a row tells the weaker one. -/
class ToS (p : Prop) (q : outParam Prop) : Prop where
  out : p → q
instance : ToS (d.R e w base ok v xs) (SR d e w base ok v xs) := ⟨SR_ofR⟩
instance : ToS (SR d e w base ok v xs) (SR d e w base ok v xs) := ⟨id⟩
section
variable {p : Prop}
end
end
end Go.Proofs.YtjllbkeobibnkaaDoorK

namespace Go.Proofs.YtjllbkeobibnkaaDoor.Q
open Go Go.Proofs Go.Shelf Go.RowKit Go.Proofs.YtjllbkeobibnkaaDoorK Go.Proofs.YtjllbkeobibnkaaDoorW.PrintWords Go.Proofs.YtjllbkeobibnkaaDoorW.PrintLast Go.Proofs.YtjllbkeobibnkaaDoorW.PrintMore
set_option linter.unusedSimpArgs false
set_option linter.unusedVariables false
/-- Where the first one stands that is so; -1: none is. -/
def idxK (p : S58 → Bool) : Nat → List S58 → Int
  | _, [] => -1
  | i, x :: l => if p x = true then (i : Int) else idxK p (i + 1) l
def eqP (p : ByteArray) (k : S58) : Bool := k.f0.toList == p.toList
def findS : List S58 → ByteArray → S51 × Bool
  | [], _ => (z51, false)
  | k :: l, p => if eqP p k = true then (k.f1, true) else findS l p
theorem idx_find (p : ByteArray) (l : List S58) : ∀ i : Nat, (idxK (eqP p) i l = -1 ∧ findS l p = (z51, false)) ∨ ∃ j, ∃ h : j < l.length, idxK (eqP p) i l = ((i + j : Nat) : Int) ∧ findS l p = (l[j].f1, true) := by
  induction l with
  | nil => intro i; exact .inl ⟨rfl, rfl⟩
  | cons k l ih =>
    intro i
    unfold idxK findS
    by_cases h : eqP p k = true
    · rw [if_pos h, if_pos h]
      exact .inr ⟨0, Nat.zero_lt_succ _, rfl, rfl⟩
    · rw [if_neg h, if_neg h]
      rcases ih (i + 1) with ⟨h1, h2⟩ | ⟨j, hj, h1, h2⟩
      · exact .inl ⟨h1, h2⟩
      · exact .inr ⟨j + 1, Nat.succ_lt_succ hj, by rw [h1]; congr 1; omega, h2⟩
/-- What is asked of a predicate that is bound to one box. -/
def PredK (g b : Nat) (p : S58 → Bool) (l : List S58) (w : World) : Prop := ∀ W x, x ∈ l → Below w.heap.size w W → Calls Tryd.prog g #[.agg (A58 x), .pointer (some ⟨b, 0, none⟩)] W fun e w' => e = .returned (.bool (p x)) ∧ Below W.heap.size W w'
attribute [local go_sem] A51_size A51_0 A51_1 A51_g0 A51_g1 A58_size A58_0 A58_1 A58_2 A58_g0 A58_g1 A58_g2 cell_held frozen_held
set_option maxRecDepth 100000 in
set_option maxHeartbeats 1000000 in
theorem idxk_any (w : World) (A : Option Addr) (c : Nat) (l : List S58) (hC : k58.C w A l.length l) (hl : l.length ≤ 1048576) (g b : Nat) (eg : ∀ args w, (callFunc g args).run Tryd.prog w = .ok (.enter g args) w) (p : S58 → Bool) (hp : PredK g b p l w) :
    Calls Tryd.prog 51 #[.slice A l.length c, .func (.func g) #[] #[.pointer (some ⟨b, 0, none⟩)]] w fun e w' => e = .returned (.int .i64 (idxK p 0 l)) ∧ Below w.heap.size w w' := by
  have HR := Aside0.mk hC
  have HP := Aside0.mk hp
  have HB0 := Aside0.mk (Below.refl w.heap.size w)
  have hu58 := Tryd.underlying58
  clear hC hp
  go_enter Tryd.func51, Tryd.ntmps51
  go_wp2_with fail
  go_loopw [8] (fun i wr => ∃ j : Nat, j ≤ l.length ∧ i = .int .i64 (j : Int) ∧ Aside0 (idxK p j (l.drop j) = idxK p 0 l) ∧ Aside0 (Below w.heap.size w wr)) (fun i _ => l.length - (intOf i).toNat)
  case atStart => exact ⟨0, Nat.zero_le _, rfl, ⟨rfl⟩, HB0⟩
  case round =>
    obtain ⟨j, hj, rfl, HI, HB⟩ := hrel
    by_cases hlt : j < l.length
    · obtain ⟨ad, e, x0⟩ := C58_at HR.out j hlt
      subst e
      have hd := List.drop_eq_getElem_cons hlt
      have hmem := List.getElem_mem hlt
      have hI := HI.out
      rw [hd] at hI
      simp only [idxK] at hI
      have hpw := fun W => HP.out W l[j] hmem
      generalize l[j] = x at x0 hI hpw
      replace x0 := At_below x0 HB.out
      have X0 := Aside0.mk x0
      have HPW := Aside0.mk hpw
      clear hd hmem hpw HI x0
      have bw : Bel w.heap.size w wr := ⟨fun _ => HB.out⟩
      cases hx : p x with
      | true =>
        rw [if_pos hx] at hI
        have HI := Aside0.mk hI
        have HPW := HPW.out
        rw [hx] at HPW
        have HPW := Aside0.mk HPW
        clear hI hx
        go_wp2_with (refine seg_load rfl 58 (.tmp 14) rfl X0.out (A58 x) rfl rfl hu58 rfl (by rw [L58_len]; exact info58s) ?_)
        refine (HPW.out _ (bel _ _)).mono ?_
        rintro e w1 ⟨rfl, hb1⟩
        have p1 := prev_call hb1
        go_wp2_with fail
        go_ret
        exact ⟨by rw [← HI.out]; rfl, bel _ _⟩
      | false =>
        rw [if_neg (by rw [hx]; decide)] at hI
        have HI := Aside0.mk hI
        have HPW := HPW.out
        rw [hx] at HPW
        have HPW := Aside0.mk HPW
        clear hI hx
        go_wp2_with (refine seg_load rfl 58 (.tmp 14) rfl X0.out (A58 x) rfl rfl hu58 rfl (by rw [L58_len]; exact info58s) ?_)
        refine (HPW.out _ (bel _ _)).mono ?_
        rintro e w1 ⟨rfl, hb1⟩
        have p1 := prev_call hb1
        go_wp2_with fail
        go_roundw
        case rel => exact ⟨j + 1, by omega, by go_num, HI, ⟨bel _ _⟩⟩
        case measure => simp [intOf]; omega
    · have hI := HI.out
      rw [List.drop_of_length_le (by omega)] at hI
      have HI' := Aside0.mk hI
      clear hI HI
      go_wp2_with fail
      go_ret
      exact ⟨by rw [← HI'.out]; rfl, HB.out⟩
set_option maxRecDepth 100000 in
theorem find1_any (w : World) (b : Nat) (p : ByteArray) (h : w.heap[b]? = some (.cells #[.string p] 9 (0, 0))) (l : List S58) : PredK 52 b (eqP p) l w := by
  intro W x _ hb
  have hW := (hb.block b (blk_lt h)).trans h
  have hh : Go.Proofs.YtjllbkeobibnkaaDoorK.Holds W b (.cells #[.string p] 9) := ⟨hW⟩
  have x0 : W.cell? ⟨b, 0, none⟩ = some (.string p) := cell_held.trans rfl
  have hlt := World.block_lt_of_cell? W _ x0
  clear hb hW h
  show Calls _ _ _ _ fun e w' => e = .returned (.bool (x.f0.toList == p.toList)) ∧ _
  go_enter Tryd.func52, Tryd.ntmps52
  go_wp2_with fail
  go_ret
  exact ⟨rfl, bel _ _⟩
set_option maxRecDepth 100000 in
set_option maxHeartbeats 1000000 in
theorem Find_any (w : World) (A : Option Addr) (c : Nat) (l : List S58) (p : ByteArray) (hC : k58.C w A l.length l) (hl : l.length ≤ 1048576) :
    Calls Tryd.prog 21 #[.slice A l.length c, .string p] w fun e w' => e = .returned (.tuple #[.agg (A51 (findS l p).1), .bool (findS l p).2]) ∧ Below w.heap.size w w' := by
  have eg : ∀ args w, (callFunc 52 args).run Tryd.prog w = .ok (.enter 52 args) w := enters_of Tryd.func52 (by kernel_rfl) rfl
  have hu51 := Tryd.underlying51
  have HI := Aside0.mk (fun W b hb hC => idxk_any W A c l hC hl 52 b eg (eqP p) (find1_any W b p hb l))
  have HC := Aside0.mk hC
  have hi := idx_find p l 0
  simp only [Nat.zero_add] at hi
  rcases hi with ⟨h1, h2⟩ | ⟨j, hj, h1, h2⟩
  · rw [h2]
    rw [h1] at HI
    clear h1 h2 eg hC
    go_enter Tryd.func21, Tryd.ntmps21
    go_wp2_with fail
    refine (HI.out _ _ held (Kd.C_below HC.out (bel _ _))).mono ?_
    rintro e w1 ⟨rfl, hb1⟩
    have p1 := prev_call hb1
    clear hb1
    go_wp2_with (
      (refine box_store rfl rfl 51 (.tmp 4) (.tmp 12) rfl held (A51 z51) rfl rfl (by rw [A51_size]; exact info51s) (by rfl) (A51_all z51) ?_
       intro wz hxz hgz
       have pz := prev_row hgz
       have HZ := Aside0.mk hxz
       clear hxz hgz))
    refine bodyPost_ret (results_row_tmp rfl _ _ (.bool false) HZ.out rfl rfl hu51 rfl (by rw [A51_size]; exact info51s)) rfl ?_
    exact ⟨rfl, bel _ _⟩
  · rw [h2]
    rw [h1] at HI
    obtain ⟨ad, e, x0⟩ := C58_at hC j hj
    subst e
    generalize l[j] = x at x0
    have X0 := Aside0.mk (At58 x0).2.2.2.1
    clear h1 h2 eg hC x0
    go_enter Tryd.func21, Tryd.ntmps21
    go_wp2_with fail
    refine (HI.out _ _ held (Kd.C_below HC.out (bel _ _))).mono ?_
    rintro e w1 ⟨rfl, hb1⟩
    have p1 := prev_call hb1
    clear hb1
    have x1 := At_below X0.out (bel w w1)
    have X1 := Aside0.mk x1
    clear x1
    go_wp2_with (first
      | (refine seg_load rfl 51 (.tmp 16) rfl X1.out (A51 x.f1) rfl rfl hu51 rfl (by rw [L51_len]; exact info51s) ?_)
      | (refine box_store rfl rfl 51 (.tmp 4) (.tmp 17) rfl held (A51 x.f1) rfl rfl (by rw [A51_size]; exact info51s) (by rw [A51_size]; rfl) (A51_all _) ?_
         intro wz hxz hgz
         have pz := prev_row hgz
         have HZ := Aside0.mk hxz
         clear hxz hgz))
    refine bodyPost_ret (results_row_tmp rfl _ _ (.bool true) HZ.out rfl rfl hu51 rfl (by rw [A51_size]; exact info51s)) rfl ?_
    exact ⟨rfl, bel _ _⟩
end Go.Proofs.YtjllbkeobibnkaaDoor.Q

namespace Go.Proofs.YtjllbkeobibnkaaDoor.Q
open Go Go.Proofs Go.Shelf Go.RowKit Go.Proofs.YtjllbkeobibnkaaDoorK Go.Proofs.YtjllbkeobibnkaaDoorW.PrintWords Go.Proofs.YtjllbkeobibnkaaDoorW.PrintLast Go.Proofs.YtjllbkeobibnkaaDoorW.PrintMore
set_option linter.unusedSimpArgs false
set_option linter.unusedVariables false
def alikeS (a b : S51) : Bool := a.f1 == b.f1 && a.f2.l == b.f2.l
theorem info5s : ∃ i, Tryd.prog.info? 5 = some i := Option.isSome_iff_exists.1 (by kernel_rfl)
theorem eqS (d : Nat) (w : World) (s r : Sum) : (Op.equalIn (d + 2) 49 (.agg (sumL s).toArray) (.agg (sumL r).toArray)).run Tryd.prog w = .ok (s.l == r.l) w := by
  obtain ⟨i0, hi⟩ := info5s
  exact eq_sum d Tryd.underlying49 Tryd.underlying5 (by kernel_rfl) hi _ _ s r (by simp) (by simp)
attribute [local go_sem ↓ high] lvx_of
attribute [local go_sem] lv_sc lv24 lv33
attribute [local go_sem ↓ high] lv51 lv51s lv58 lv58a lv65 lv65a lv65l lv65r sc51 sc58 sc65 sc65a sc65l sc65r sc58a
attribute [local go_sem] A51_size A51_0 A51_1 A51_g0 A51_g1 A58_size A58_0 A58_1 A58_2 A58_g0 A58_g1 A58_g2 cell_held frozen_held
attribute [local go_sem high] eqS
set_option maxRecDepth 100000 in
set_option maxHeartbeats 1000000 in
theorem alike_any (w : World) (x y : S51) : Calls Tryd.prog 54 #[.agg (A51 x), .agg (A51 y)] w fun e w' => e = .returned (.bool (alikeS x y)) ∧ Below w.heap.size w w' := by
  unfold alikeS
  cases h1 : (x.f1 == y.f1)
  · rw [Bool.false_and]
    go_enter Tryd.func54, Tryd.ntmps54
    go_wp2_with fail
    go_ret
    exact ⟨rfl, bel _ _⟩
  · rw [Bool.true_and]
    go_enter Tryd.func54, Tryd.ntmps54
    go_wp2_with fail
    go_ret
    exact ⟨rfl, bel _ _⟩

set_option maxRecDepth 100000 in
set_option maxHeartbeats 1000000 in
theorem Alike_any (w : World) (x y : S51) : Calls Tryd.prog 22 #[.agg (A51 x), .agg (A51 y)] w fun e w' => e = .returned (.bool (alikeS x y)) ∧ Below w.heap.size w w' := by
  unfold alikeS
  cases h1 : (x.f1 == y.f1)
  · rw [Bool.false_and]
    go_enter Tryd.func22, Tryd.ntmps22
    go_wp2_with fail
    go_ret
    exact ⟨rfl, bel _ _⟩
  · rw [Bool.true_and]
    go_enter Tryd.func22, Tryd.ntmps22
    go_wp2_with fail
    go_ret
    exact ⟨rfl, bel _ _⟩

end Go.Proofs.YtjllbkeobibnkaaDoor.Q

namespace Go.Proofs.YtjllbkeobibnkaaDoor.Q
open Go Go.Proofs Go.Shelf Go.RowKit Go.Proofs.YtjllbkeobibnkaaDoorK Go.Proofs.YtjllbkeobibnkaaDoorW.PrintWords Go.Proofs.YtjllbkeobibnkaaDoorW.PrintLast Go.Proofs.YtjllbkeobibnkaaDoorW.PrintMore
set_option linter.unusedSimpArgs false
set_option linter.unusedVariables false
/-- What all sides have of a path. -/
def atS (s : S24) (p : ByteArray) : S65 :=
  { a := (findS s.f0 p).1, l := (findS s.f1 p).1, r := (findS s.f2 p).1, inA := (findS s.f0 p).2, inL := (findS s.f1 p).2, inR := (findS s.f2 p).2
    here := ((findS s.f1 p).2 != (findS s.f0 p).2) || ((findS s.f1 p).2 && !alikeS (findS s.f0 p).1 (findS s.f1 p).1)
    there := ((findS s.f2 p).2 != (findS s.f0 p).2) || ((findS s.f2 p).2 && ((findS s.f0 p).1.f0 != (findS s.f2 p).1.f0)) }
/-- Sides that come in. -/
structure SideIn (w : World) (s : S24) (v : Array Value) : Prop where
  out : ∃ A c B d C e, v = #[.slice A s.f0.length c, .slice B s.f1.length d, .slice C s.f2.length e] ∧ s.f0.length ≤ c ∧ s.f1.length ≤ d ∧ s.f2.length ≤ e ∧ k58.C w A s.f0.length s.f0 ∧ k58.C w B s.f1.length s.f1 ∧ k58.C w C s.f2.length s.f2
theorem SideIn.below {w w' : World} {s : S24} {v : Array Value} (h : SideIn w s v) (hb : Below w.heap.size w w') : SideIn w' s v := by
  obtain ⟨A, c, B, d, C, e, h1, h2, h3, h4, h5, h6, h7⟩ := h.out
  exact ⟨⟨A, c, B, d, C, e, h1, h2, h3, h4, Kd.C_below h5 hb, Kd.C_below h6 hb, Kd.C_below h7 hb⟩⟩
def shortS (s : S24) : Bool := decide (s.f0.length ≤ 1048576) && (decide (s.f1.length ≤ 1048576) && decide (s.f2.length ≤ 1048576))
theorem shortS_open {s : S24} (h : shortS s = true) : s.f0.length ≤ 1048576 ∧ s.f1.length ≤ 1048576 ∧ s.f2.length ≤ 1048576 := by
  unfold shortS at h
  simpa using h
attribute [local go_sem] A51_size A51_0 A51_1 A51_g0 A51_g1 A58_size A58_0 A58_1 A58_2 A58_g0 A58_g1 A58_g2 cell_held frozen_held
attribute [local go_sem] A65_size A65_0 A65_34 A65_68 A65_102 A65_103 A65_104 A65_105 A65_106 A65_g0 A65_g34 A65_g68 A65_g102 A65_g103 A65_g104 A65_g105 A65_g106 set_inA set_inL set_inR set_here set_there
attribute [local go_sem] zero51 zero58 zero65
attribute [local go_sem ↓ high] lvx_of
attribute [local go_sem] lv_sc lv24 lv33
attribute [local go_sem ↓ high] lv51 lv51s lv58 lv58a lv65 lv65a lv65l lv65r sc51 sc58 sc65 sc65a sc65l sc65r sc58a
set_option maxRecDepth 100000 in
set_option maxHeartbeats 4000000 in
theorem at_any (w : World) (s : S24) (v : Array Value) (p : ByteArray) (hs : SideIn w s v) (hl : shortS s = true) :
    Calls Tryd.prog 26 #[.agg v, .string p] w fun e w' => e = .returned (.agg (A65 (atS s p))) ∧ Below w.heap.size w w' := by
  obtain ⟨A, c, B, d, C, e, rfl, l1, l2, l3, h1, h2, h3⟩ := hs.out
  obtain ⟨m1, m2, m3⟩ := shortS_open hl
  have HF0 := Aside0.mk (fun W (hb : Below w.heap.size w W) => Find_any W A c s.f0 p (Kd.C_below h1 hb) m1)
  have HF1 := Aside0.mk (fun W (hb : Below w.heap.size w W) => Find_any W B d s.f1 p (Kd.C_below h2 hb) m2)
  have HF2 := Aside0.mk (fun W (hb : Below w.heap.size w W) => Find_any W C e s.f2 p (Kd.C_below h3 hb) m3)
  unfold atS
  clear hs hl l1 l2 l3 h1 h2 h3 m1 m2 m3
  generalize s.f0.length = n0 at HF0
  generalize s.f1.length = n1 at HF1
  generalize s.f2.length = n2 at HF2
  generalize findS s.f0 p = x at HF0
  generalize findS s.f1 p = y at HF1
  generalize findS s.f2 p = z at HF2
  obtain ⟨x, ia⟩ := x
  obtain ⟨y, il⟩ := y
  obtain ⟨z, ir⟩ := z
  dsimp only at HF0 HF1 HF2 ⊢
  go_enter Tryd.func26, Tryd.ntmps26
  go_wp2_with fail
  refine (HF0.out _ (bel _ _)).mono ?_
  rintro r1 w1 ⟨rfl, hb⟩
  have p1 := prev_call hb
  clear hb
  go_wp2_with fail
  refine (HF1.out _ (bel _ _)).mono ?_
  rintro r2 w2 ⟨rfl, hb⟩
  have p2 := prev_call hb
  clear hb
  go_wp2_with fail
  refine (HF2.out _ (bel _ _)).mono ?_
  rintro r3 w3 ⟨rfl, hb⟩
  have p3 := prev_call hb
  clear hb
  cases ia <;> cases il <;> cases ir <;> go_wp2_with fail
  any_goals (first
    | (refine (alike_any _ _ _).mono ?_
       rintro r4 w4 ⟨rfl, hb⟩
       have p4 := prev_call hb
       clear hb
       go_wp2_with fail)
    | skip)
  all_goals
    refine bodyPost_ret (results_cell_row rfl _ _ _ _ _ _ _ rfl held Tryd.underlying65 rfl (by rw [A65_size]; exact info65s)) rfl ?_
    exact ⟨by simp, bel _ _⟩
end Go.Proofs.YtjllbkeobibnkaaDoor.Q

namespace Go.Proofs.YtjllbkeobibnkaaDoorK
open Go Go.RowKit Go.Proofs.YtjllbkeobibnkaaDoorW.PrintWords
/-- A struct laid cell by cell into a new row is the struct. -/
theorem laid_list : ∀ (l : List Value) (k : Nat) (acc : Array Value), acc.size = k + l.length → (l.zipIdx k).foldl (fun cs x => cs.setIfInBounds x.2 x.1) acc = (acc.toList.take k ++ l).toArray
  | [], k, acc, h => by
    simp only [List.zipIdx_nil, List.foldl_nil, List.append_nil]
    rw [List.take_of_length_le (by simp at h ⊢; omega)]
  | v :: l, k, acc, h => by
    simp only [List.zipIdx_cons, List.foldl_cons]
    simp only [List.length_cons] at h
    rw [laid_list l (k + 1) _ (by simp; omega)]
    congr 1
    have hk : k < acc.toList.length := by simp; omega
    rw [Array.toList_setIfInBounds, List.take_succ_eq_append_getElem (by simpa using hk), List.take_set_of_le (Nat.le_refl k), List.getElem_set_self]
    simp
theorem laid_row (zs cs : Array Value) (n : Nat) (h : zs.size = n) (hn : cs.size = n) : Array.foldl (fun cs x => cs.setIfInBounds x.2 x.1) zs cs.zipIdx 0 n = cs := by
  have h1 := laid_list cs.toList 0 zs (by simp; omega)
  have h2 : cs.zipIdx.size = n := by simp [hn]
  have h3 := Array.foldl_toList (fun (cs : Array Value) (x : Value × Nat) => cs.setIfInBounds x.2 x.1) (init := zs) (xs := cs.zipIdx)
  rw [← h2]
  rw [← h3, Array.toList_zipIdx, h1]
  simp
section
variable {P : Program} {ops : Array Oper} {oi : Oper} {a : Act} {w : World} {Q : Exit → Act → World → Prop} {K : Act → World → Prop}
end
end Go.Proofs.YtjllbkeobibnkaaDoorK

namespace Go.Proofs.YtjllbkeobibnkaaDoor.Q
open Go Go.Proofs Go.Shelf Go.RowKit Go.Proofs.YtjllbkeobibnkaaDoorK Go.Proofs.YtjllbkeobibnkaaDoorW.PrintWords Go.Proofs.YtjllbkeobibnkaaDoorW.PrintLast Go.Proofs.YtjllbkeobibnkaaDoorW.PrintMore
set_option linter.unusedSimpArgs false
set_option linter.unusedVariables false
theorem info58b : (Tryd.prog.info? 58).map (fun i => (i.zero, i.size, i.bytes)) = some (some (.agg (A58 z58)), 35, 64) := by kernel_rfl
theorem info9b : (Tryd.prog.info? 9).map (fun i => (i.zero, i.size, i.bytes)) = some (some (.string ⟨#[]⟩), 1, 16) := by kernel_rfl
theorem rowB {α : Type} {d : Kd α} {e base : Nat} {W W' : World} {v : Value} {xs : List α} (h : d.R e W base (fun _ => True) v xs) (hb : Below W.heap.size W W') : d.R e W' base (fun _ => True) v xs :=
  Kd.R_mono (Kd.R_step (Kd.R_bound h) (fun k hk hlt => hb.block k hlt)) (fun _ _ => trivial)
theorem laid58 {zs : Array Value} (c : S58) (h : zs.size = 35) : Array.foldl (fun (cs : Array Value) (x : Value × Nat) => cs.setIfInBounds x.2 x.1) zs (A58 c).zipIdx 0 35 = A58 c := laid_row _ _ 35 h (A58_size c)
theorem laid_off : ∀ (l : List Value) (k o : Nat) (acc : Array Value), o + k + l.length ≤ acc.size → ((l.zipIdx k).foldl (fun (cs : Array Value) (x : Value × Nat) => cs.setIfInBounds (o + x.2) x.1) acc).toList = acc.toList.take (o + k) ++ (l ++ acc.toList.drop (o + k + l.length))
  | [], k, o, acc, h => by
    simp only [List.zipIdx_nil, List.foldl_nil, List.nil_append, List.length_nil, Nat.add_zero, List.take_append_drop]
  | v :: l, k, o, acc, h => by
    simp only [List.length_cons] at h
    simp only [List.zipIdx_cons, List.foldl_cons]
    rw [laid_off l (k + 1) o _ (by rw [Array.size_setIfInBounds]; omega), Array.toList_setIfInBounds]
    have hk : o + k < acc.toList.length := by rw [Array.length_toList]; omega
    rw [show o + (k + 1) = o + k + 1 by omega, List.take_succ_eq_append_getElem (by rw [List.length_set]; exact hk), List.take_set_of_le (Nat.le_refl _), List.getElem_set_self, List.drop_set_of_lt (by omega), List.length_cons, show o + k + 1 + l.length = o + k + (l.length + 1) by omega, List.append_assoc]
    rfl
theorem laid58a (p : ByteArray) (a a0 : S51) : Array.foldl (fun (cs : Array Value) (x : Value × Nat) => cs.setIfInBounds (1 + x.2) x.1) (A58 ⟨p, a0⟩) (A51 a).zipIdx 0 34 = A58 ⟨p, a⟩ := by
  have h2 : (A51 a).zipIdx.size = 34 := by simp [A51_size]
  rw [← h2, ← Array.foldl_toList, Array.toList_zipIdx]
  apply Array.toList_inj.1
  rw [laid_off _ 0 1 _ (by rw [A58_size, Array.length_toList, A51_size]; decide), A58_list, A58_list, A51_list, L51_len, List.drop_of_length_le (by rw [L58_len]; decide), List.append_nil]
  rfl
section
variable {ops : Array Oper} {rest : List Oper} {o : Oper} {a : Act} {Q : Exit → Act → World → Prop}
theorem app58 {w0 W : World} (base : Nat) (hgd : o.guard = none) (s x : Operand) (ho : o.op = .call { callee := .builtin .append, args := #[s, x], argTypes := #[22, 22] })
    (v : Value) (xs : List S58) (p : S58) (hs : a.eval s = v) (hx : a.eval x = .slice (some ⟨W.heap.size, 0, none⟩) 1 1)
    (HO : k58.R 58 W base (fun _ => True) v xs) (HB : Below base w0 W) (hbase : base ≤ W.heap.size) (hl : xs.length ≤ 2097152)
    (h : ∀ v1 w1, k58.R 58 w1 base (fun _ => True) v1 (xs ++ [p]) → Below base w0 w1 → W.grownBy w1 v.ownBlock → (v1.ownBlock = v.ownBlock ∨ ∃ b, v1.ownBlock = some b ∧ W.heap.size ≤ b) → wpList Tryd.prog ops Q rest (a.put o.dst v1) w1) :
    wpList Tryd.prog ops Q (o :: rest) a (W.alloc (.cells (A58 p) 58)) :=
  Kd.R_append k58 (w0 := w0) base hgd s x 22 58 (.agg (A58 z58)) 64 ho Tryd.underlying22 info58b (A58_size z58) (by decide) (by decide) v xs p (L58 p) (fun _ => True) (fun _ => False) hs hx rfl (fun _ hk => hk.elim) (fun _ _ => trivial) HO HB hbase (by omega) h
theorem app41 {w0 W : World} (base : Nat) (hgd : o.guard = none) (s x : Operand) (ho : o.op = .call { callee := .builtin .append, args := #[s, x], argTypes := #[41, 41] })
    (v : Value) (xs : List ByteArray) (p : ByteArray) (hs : a.eval s = v) (hx : a.eval x = .slice (some ⟨W.heap.size, 0, none⟩) 1 1)
    (HO : Kd.string.R 9 W base (fun _ => True) v xs) (HB : Below base w0 W) (hbase : base ≤ W.heap.size) (hl : xs.length ≤ 8388608)
    (h : ∀ v1 w1, Kd.string.R 9 w1 base (fun _ => True) v1 (xs ++ [p]) → Below base w0 w1 → W.grownBy w1 v.ownBlock → (v1.ownBlock = v.ownBlock ∨ ∃ b, v1.ownBlock = some b ∧ W.heap.size ≤ b) → wpList Tryd.prog ops Q rest (a.put o.dst v1) w1) :
    wpList Tryd.prog ops Q (o :: rest) a (W.alloc (.cells #[.string p] 9)) :=
  Kd.R_append Kd.string (w0 := w0) base hgd s x 41 9 (.string ⟨#[]⟩) 16 ho Tryd.underlying41 info9b rfl (by decide) (by decide) v xs p [.string p] (fun _ => True) (fun _ => False) hs hx rfl (fun _ hk => hk.elim) (fun _ _ => trivial) HO HB hbase (by omega) h
theorem put41 {W : World} (base : Nat) (hgd : o.guard = none) (s x : Operand) (ho : o.op = .call { callee := .builtin .append, args := #[s, x], argTypes := #[41, 41] })
    (v : Value) (xs : List ByteArray) (p : ByteArray) (hs : a.eval s = v) (hx : a.eval x = .slice (some ⟨W.heap.size, 0, none⟩) 1 1)
    (HO : Kd.string.R 9 W base (fun _ => True) v xs) (hbase : base ≤ W.heap.size) (hl : xs.length ≤ 8388608)
    (h : ∀ v1 w1, Kd.string.R 9 w1 base (fun _ => True) v1 (xs ++ [p]) → W.grownBy w1 v.ownBlock → (v1.ownBlock = v.ownBlock ∨ ∃ b, v1.ownBlock = some b ∧ W.heap.size ≤ b) → wpList Tryd.prog ops Q rest (a.put o.dst v1) w1) :
    wpList Tryd.prog ops Q (o :: rest) a (W.alloc (.cells #[.string p] 9)) :=
  app41 base hgd s x ho v xs p hs hx HO (Below.refl _ _) hbase hl (fun v1 w1 h1 _ h3 h4 => h v1 w1 h1 h3 h4)
end
end Go.Proofs.YtjllbkeobibnkaaDoor.Q

namespace Go.Proofs.YtjllbkeobibnkaaDoor.Q
open Go Go.Proofs Go.Shelf Go.RowKit Go.Proofs.YtjllbkeobibnkaaDoorK Go.Proofs.YtjllbkeobibnkaaDoorW.PrintWords Go.Proofs.YtjllbkeobibnkaaDoorW.PrintLast Go.Proofs.YtjllbkeobibnkaaDoorW.PrintMore
set_option linter.unusedSimpArgs false
set_option linter.unusedVariables false
/-- api.Step: a kind, a version, a path, another one. -/
structure S33 where
  f0 : Int
  f1 : Int
  f2 : ByteArray
  f3 : ByteArray
def eB : ByteArray := ⟨#[]⟩
def z33 : S33 := ⟨0, 0, eB, eB⟩
def A33 (x : S33) : Array Value := #[.int .i64 x.f0, .int .i64 x.f1, .string x.f2, .string x.f3]
def stepS (x : S65) (p : ByteArray) : S33 :=
  match x.here, x.there, x.inL, x.inR with
  | false, false, true, _ => if (x.l.f0 != x.a.f0) = true then ⟨5, x.a.f0, p, eB⟩ else z33
  | false, false, false, _ => z33
  | true, false, true, _ => ⟨1, x.a.f0, p, eB⟩
  | true, false, false, _ => ⟨2, x.a.f0, p, eB⟩
  | false, true, _, true => ⟨3, x.r.f0, p, eB⟩
  | false, true, _, false => ⟨4, 0, p, eB⟩
  | true, true, false, true => ⟨3, x.r.f0, p, eB⟩
  | true, true, false, false => ⟨6, 0, p, eB⟩
  | true, true, true, false => ⟨1, 0, p, eB⟩
  | true, true, true, true => if alikeS x.l x.r = true then ⟨5, x.r.f0, p, eB⟩ else ⟨7, x.r.f0, p, eB⟩
theorem info33 : (Tryd.prog.info? 33).map (·.size) = some 4 := by kernel_rfl
attribute [local go_sem] A51_size A51_0 A51_1 A51_g0 A51_g1 A58_size A58_0 A58_1 A58_2 A58_g0 A58_g1 A58_g2 cell_held frozen_held
attribute [local go_sem] A65_size A65_0 A65_34 A65_68 A65_102 A65_103 A65_104 A65_105 A65_106 A65_g0 A65_g34 A65_g68 A65_g102 A65_g103 A65_g104 A65_g105 A65_g106 set_inA set_inL set_inR set_here set_there
attribute [local go_sem] zero51 zero58 zero65
attribute [local go_sem ↓ high] lvx_of
attribute [local go_sem] lv_sc lv24 lv33
attribute [local go_sem ↓ high] lv51 lv51s lv58 lv58a lv65 lv65a lv65l lv65r sc51 sc58 sc65 sc65a sc65l sc65r sc58a
set_option maxRecDepth 100000 in
set_option maxHeartbeats 4000000 in
theorem step_any (w : World) (x : S65) (p : ByteArray) : Calls Tryd.prog 44 #[.agg (A65 x), .string p] w fun e w' => e = .returned (.agg (A33 (stepS x p))) ∧ Below w.heap.size w w' := by
  obtain ⟨a, l, r, ia, il, ir, he, th⟩ := x
  have HAL := Aside0.mk (fun W => alike_any W l r)
  cases he <;> cases th
  · cases il
    · simp only [stepS]
      (all_goals
        go_enter Tryd.func44, Tryd.ntmps44
        go_wp2_with fail
        (try (refine (HAL.out _).mono ?_; rintro r1 w1 ⟨rfl, hb⟩; have p1 := prev_call hb; clear hb; go_wp2_with fail))
        refine bodyPost_ret (results_cell_row rfl _ _ _ _ _ _ _ rfl held Tryd.underlying33 rfl (by exact info33)) rfl ?_
        exact ⟨rfl, bel _ _⟩)
    · simp only [stepS]
      cases hv : (l.f0 != a.f0)
      · rw [if_neg (by decide)]
        (all_goals
          go_enter Tryd.func44, Tryd.ntmps44
          go_wp2_with fail
          (try (refine (HAL.out _).mono ?_; rintro r1 w1 ⟨rfl, hb⟩; have p1 := prev_call hb; clear hb; go_wp2_with fail))
          refine bodyPost_ret (results_cell_row rfl _ _ _ _ _ _ _ rfl held Tryd.underlying33 rfl (by exact info33)) rfl ?_
          exact ⟨rfl, bel _ _⟩)
      · rw [if_pos rfl]
        (all_goals
          go_enter Tryd.func44, Tryd.ntmps44
          go_wp2_with fail
          (try (refine (HAL.out _).mono ?_; rintro r1 w1 ⟨rfl, hb⟩; have p1 := prev_call hb; clear hb; go_wp2_with fail))
          refine bodyPost_ret (results_cell_row rfl _ _ _ _ _ _ _ rfl held Tryd.underlying33 rfl (by exact info33)) rfl ?_
          exact ⟨rfl, bel _ _⟩)
  · cases ir
    · simp only [stepS]
      (all_goals
        go_enter Tryd.func44, Tryd.ntmps44
        go_wp2_with fail
        (try (refine (HAL.out _).mono ?_; rintro r1 w1 ⟨rfl, hb⟩; have p1 := prev_call hb; clear hb; go_wp2_with fail))
        refine bodyPost_ret (results_cell_row rfl _ _ _ _ _ _ _ rfl held Tryd.underlying33 rfl (by exact info33)) rfl ?_
        exact ⟨rfl, bel _ _⟩)
    · simp only [stepS]
      (all_goals
        go_enter Tryd.func44, Tryd.ntmps44
        go_wp2_with fail
        (try (refine (HAL.out _).mono ?_; rintro r1 w1 ⟨rfl, hb⟩; have p1 := prev_call hb; clear hb; go_wp2_with fail))
        refine bodyPost_ret (results_cell_row rfl _ _ _ _ _ _ _ rfl held Tryd.underlying33 rfl (by exact info33)) rfl ?_
        exact ⟨rfl, bel _ _⟩)
  · cases il
    · simp only [stepS]
      (all_goals
        go_enter Tryd.func44, Tryd.ntmps44
        go_wp2_with fail
        (try (refine (HAL.out _).mono ?_; rintro r1 w1 ⟨rfl, hb⟩; have p1 := prev_call hb; clear hb; go_wp2_with fail))
        refine bodyPost_ret (results_cell_row rfl _ _ _ _ _ _ _ rfl held Tryd.underlying33 rfl (by exact info33)) rfl ?_
        exact ⟨rfl, bel _ _⟩)
    · simp only [stepS]
      (all_goals
        go_enter Tryd.func44, Tryd.ntmps44
        go_wp2_with fail
        (try (refine (HAL.out _).mono ?_; rintro r1 w1 ⟨rfl, hb⟩; have p1 := prev_call hb; clear hb; go_wp2_with fail))
        refine bodyPost_ret (results_cell_row rfl _ _ _ _ _ _ _ rfl held Tryd.underlying33 rfl (by exact info33)) rfl ?_
        exact ⟨rfl, bel _ _⟩)
  · cases il <;> cases ir
    · simp only [stepS]
      (all_goals
        go_enter Tryd.func44, Tryd.ntmps44
        go_wp2_with fail
        (try (refine (HAL.out _).mono ?_; rintro r1 w1 ⟨rfl, hb⟩; have p1 := prev_call hb; clear hb; go_wp2_with fail))
        refine bodyPost_ret (results_cell_row rfl _ _ _ _ _ _ _ rfl held Tryd.underlying33 rfl (by exact info33)) rfl ?_
        exact ⟨rfl, bel _ _⟩)
    · simp only [stepS]
      (all_goals
        go_enter Tryd.func44, Tryd.ntmps44
        go_wp2_with fail
        (try (refine (HAL.out _).mono ?_; rintro r1 w1 ⟨rfl, hb⟩; have p1 := prev_call hb; clear hb; go_wp2_with fail))
        refine bodyPost_ret (results_cell_row rfl _ _ _ _ _ _ _ rfl held Tryd.underlying33 rfl (by exact info33)) rfl ?_
        exact ⟨rfl, bel _ _⟩)
    · simp only [stepS]
      (all_goals
        go_enter Tryd.func44, Tryd.ntmps44
        go_wp2_with fail
        (try (refine (HAL.out _).mono ?_; rintro r1 w1 ⟨rfl, hb⟩; have p1 := prev_call hb; clear hb; go_wp2_with fail))
        refine bodyPost_ret (results_cell_row rfl _ _ _ _ _ _ _ rfl held Tryd.underlying33 rfl (by exact info33)) rfl ?_
        exact ⟨rfl, bel _ _⟩)
    · simp only [stepS]
      generalize alikeS l r = q at HAL ⊢
      cases q
      · rw [if_neg (by decide)]
        (all_goals
          go_enter Tryd.func44, Tryd.ntmps44
          go_wp2_with fail
          (try (refine (HAL.out _).mono ?_; rintro r1 w1 ⟨rfl, hb⟩; have p1 := prev_call hb; clear hb; go_wp2_with fail))
          refine bodyPost_ret (results_cell_row rfl _ _ _ _ _ _ _ rfl held Tryd.underlying33 rfl (by exact info33)) rfl ?_
          exact ⟨rfl, bel _ _⟩)
      · rw [if_pos rfl]
        (all_goals
          go_enter Tryd.func44, Tryd.ntmps44
          go_wp2_with fail
          (try (refine (HAL.out _).mono ?_; rintro r1 w1 ⟨rfl, hb⟩; have p1 := prev_call hb; clear hb; go_wp2_with fail))
          refine bodyPost_ret (results_cell_row rfl _ _ _ _ _ _ _ rfl held Tryd.underlying33 rfl (by exact info33)) rfl ?_
          exact ⟨rfl, bel _ _⟩)
end Go.Proofs.YtjllbkeobibnkaaDoor.Q

namespace Go.Proofs.YtjllbkeobibnkaaDoor.Q
open Go Go.Proofs Go.Shelf Go.RowKit Go.Proofs.YtjllbkeobibnkaaDoorK Go.Proofs.YtjllbkeobibnkaaDoorW.PrintWords Go.Proofs.YtjllbkeobibnkaaDoorW.PrintLast Go.Proofs.YtjllbkeobibnkaaDoorW.PrintMore
set_option linter.unusedSimpArgs false
set_option linter.unusedVariables false
def L33 (x : S33) : List Value := [.int .i64 x.f0, .int .i64 x.f1, .string x.f2, .string x.f3]
theorem L33_one (x : S33) : ∀ v ∈ L33 x, v.oneCell' = true := by
  intro v hv
  simp only [L33, List.mem_cons, List.not_mem_nil, or_false] at hv
  rcases hv with rfl | rfl | rfl | rfl <;> rfl
def k33 : Kd S33 where
  sz := 4
  E := []
  K := fun _ x cs => cs = L33 x
  M := fun _ _ _ x cs => cs = L33 x
  K_len := fun h => by rw [h]; rfl
  K_one := fun h u hu => by rw [h] at hu; exact L33_one _ u hu
  K_below := fun _ h => h
  K_of_M := fun h => h
  M_mono := fun _ h => h
  M_bound := fun h => h
  M_move := fun _ h => h
  M_lower := fun _ h => h
theorem C33_at {w : World} {A : Option Addr} {l : List S33} (h : k33.C w A l.length l) (j : Nat) (hj : j < l.length) : ∃ ad, A = some ad ∧ At w (ad.add (j * 4)) (L33 l[j]) := by
  obtain ⟨ad, e, hc⟩ := h.2.2 (by omega)
  obtain ⟨c, h1, h2, h3⟩ := hc j l[j] (List.getElem?_eq_getElem hj)
  refine ⟨ad, e, fun i u hi => ?_⟩
  rw [Go.Deep.add_add]
  exact h3 i u (by rw [show c = L33 l[j] from h2]; exact hi)
theorem at33 {w : World} {ad : Addr} {x : S33} (h : At w ad (L33 x)) : w.cell? ad = some (.int .i64 x.f0) ∧ w.cell? ⟨ad.block, ad.off + 1, none⟩ = some (.int .i64 x.f1) ∧ w.cell? ⟨ad.block, ad.off + 2, none⟩ = some (.string x.f2) ∧ w.cell? ⟨ad.block, ad.off + 3, none⟩ = some (.string x.f3) := by
  have h0 := h 0 _ rfl
  have h1 := h 1 _ rfl
  have h2 := h 2 _ rfl
  have h3 := h 3 _ rfl
  rw [add_zero_] at h0
  rw [Addr.add_succ' ad 0] at h1
  rw [Addr.add_succ' ad 1] at h2
  rw [Addr.add_succ' ad 2] at h3
  exact ⟨h0, h1, h2, h3⟩
theorem info33b : (Tryd.prog.info? 33).map (fun i => (i.zero, i.size, i.bytes)) = some (some (.agg (A33 z33)), 4, 48) := by kernel_rfl
section
variable {ops : Array Oper} {rest : List Oper} {o : Oper} {a : Act} {Q : Exit → Act → World → Prop}
theorem app33 {w0 W : World} (base : Nat) (hgd : o.guard = none) (s x : Operand) (ho : o.op = .call { callee := .builtin .append, args := #[s, x], argTypes := #[43, 43] })
    (v : Value) (xs : List S33) (p : S33) (hs : a.eval s = v) (hx : a.eval x = .slice (some ⟨W.heap.size, 0, none⟩) 1 1)
    (HO : k33.R 33 W base (fun _ => True) v xs) (HB : Below base w0 W) (hbase : base ≤ W.heap.size) (hl : xs.length ≤ 2097152)
    (h : ∀ v1 w1, k33.R 33 w1 base (fun _ => True) v1 (xs ++ [p]) → Below base w0 w1 → W.grownBy w1 v.ownBlock → (v1.ownBlock = v.ownBlock ∨ ∃ b, v1.ownBlock = some b ∧ W.heap.size ≤ b) → wpList Tryd.prog ops Q rest (a.put o.dst v1) w1) :
    wpList Tryd.prog ops Q (o :: rest) a (W.alloc (.cells #[.int .i64 p.f0, .int .i64 p.f1, .string p.f2, .string p.f3] 33)) :=
  Kd.R_append k33 (w0 := w0) base hgd s x 43 33 (.agg (A33 z33)) 48 ho Tryd.underlying43 info33b rfl (by decide) (by decide) v xs p (L33 p) (fun _ => True) (fun _ => False) hs hx rfl (fun _ hk => hk.elim) (fun _ _ => trivial) HO HB hbase (by omega) h
theorem two33 {W : World} (p q : S33) : k33.C (W.alloc (.cells #[.int .i64 p.f0, .int .i64 p.f1, .string p.f2, .string p.f3, .int .i64 q.f0, .int .i64 q.f1, .string q.f2, .string q.f3] 33)) (some ⟨W.heap.size, 0, none⟩) 2 [p, q] := by
  refine ⟨rfl, by decide, fun _ => ⟨_, rfl, fun j x hj => ?_⟩⟩
  have hb := blk_new W (.cells #[.int .i64 p.f0, .int .i64 p.f1, .string p.f2, .string p.f3, .int .i64 q.f0, .int .i64 q.f1, .string q.f2, .string q.f3] 33)
  have hj2 : j = 0 ∨ j = 1 := by
    have := (List.getElem?_eq_some_iff.1 hj).1
    simp at this
    omega
  rcases hj2 with rfl | rfl
  · obtain rfl : p = x := by simpa using hj
    refine ⟨L33 p, rfl, rfl, fun i u hi => ?_⟩
    have hi4 := (List.getElem?_eq_some_iff.1 hi).1
    rw [Addr.add_lit]
    rw [blk_cell hb]
    rcases (show i = 0 ∨ i = 1 ∨ i = 2 ∨ i = 3 by simp [L33] at hi4; omega) with rfl | rfl | rfl | rfl <;> simpa [L33] using hi
  · obtain rfl : q = x := by simpa using hj
    refine ⟨L33 q, rfl, rfl, fun i u hi => ?_⟩
    have hi4 := (List.getElem?_eq_some_iff.1 hi).1
    rw [Addr.add_lit]
    rw [blk_cell hb]
    rcases (show i = 0 ∨ i = 1 ∨ i = 2 ∨ i = 3 by simp [L33] at hi4; omega) with rfl | rfl | rfl | rfl <;> simpa [L33, k33] using hi
theorem app33two {w0 W : World} (base : Nat) (hgd : o.guard = none) (s x : Operand) (ho : o.op = .call { callee := .builtin .append, args := #[s, x], argTypes := #[43, 43] })
    (v : Value) (xs : List S33) (p q : S33) (hs : a.eval s = v) (hx : a.eval x = .slice (some ⟨W.heap.size, 0, none⟩) 2 2)
    (HO : k33.R 33 W base (fun _ => True) v xs) (HB : Below base w0 W) (hbase : base ≤ W.heap.size) (hl : xs.length ≤ 2097152)
    (h : ∀ v1 w1, k33.R 33 w1 base (fun _ => True) v1 (xs ++ [p, q]) → Below base w0 w1 → (W.alloc (.cells #[.int .i64 p.f0, .int .i64 p.f1, .string p.f2, .string p.f3, .int .i64 q.f0, .int .i64 q.f1, .string q.f2, .string q.f3] 33)).grownBy w1 v.ownBlock → (v1.ownBlock = v.ownBlock ∨ ∃ b, v1.ownBlock = some b ∧ W.heap.size ≤ b) → wpList Tryd.prog ops Q rest (a.put o.dst v1) w1) :
    wpList Tryd.prog ops Q (o :: rest) a (W.alloc (.cells #[.int .i64 p.f0, .int .i64 p.f1, .string p.f2, .string p.f3, .int .i64 q.f0, .int .i64 q.f1, .string q.f2, .string q.f3] 33)) := by
  refine Kd.R_append_rows k33 (w0 := w0) base hgd s x 43 33 (.agg (A33 z33)) 48 ho Tryd.underlying43 info33b rfl (by decide) (by decide) v xs [p, q] (some ⟨W.heap.size, 0, none⟩) 2 2 (fun _ => True) (fun _ => False) hs hx (Kd.R_alloc HO _) (two33 p q) (fun _ _ h => h) (fun _ hk => hk.elim) (fun _ _ => trivial) (HB.alloc hbase _) (by rw [World.size_alloc]; omega) (by omega) ?_
  intro v1 w1 h1 h2 h3 h4
  refine h v1 w1 h1 h2 h3 (h4.imp id (fun ⟨b, e, hb⟩ => ⟨b, e, ?_⟩))
  rw [World.size_alloc] at hb
  omega
theorem put33 {W : World} (base : Nat) (hgd : o.guard = none) (s x : Operand) (ho : o.op = .call { callee := .builtin .append, args := #[s, x], argTypes := #[43, 43] })
    (v : Value) (xs : List S33) (p : S33) (hs : a.eval s = v) (hx : a.eval x = .slice (some ⟨W.heap.size, 0, none⟩) 1 1)
    (HO : k33.R 33 W base (fun _ => True) v xs) (hbase : base ≤ W.heap.size) (hl : xs.length ≤ 2097152)
    (h : ∀ v1 w1, k33.R 33 w1 base (fun _ => True) v1 (xs ++ [p]) → W.grownBy w1 v.ownBlock → (v1.ownBlock = v.ownBlock ∨ ∃ b, v1.ownBlock = some b ∧ W.heap.size ≤ b) → wpList Tryd.prog ops Q rest (a.put o.dst v1) w1) :
    wpList Tryd.prog ops Q (o :: rest) a (W.alloc (.cells #[.int .i64 p.f0, .int .i64 p.f1, .string p.f2, .string p.f3] 33)) :=
  app33 base hgd s x ho v xs p hs hx HO (Below.refl _ _) hbase hl (fun v1 w1 h1 _ h3 h4 => h v1 w1 h1 h3 h4)
theorem put33two {W : World} (base : Nat) (hgd : o.guard = none) (s x : Operand) (ho : o.op = .call { callee := .builtin .append, args := #[s, x], argTypes := #[43, 43] })
    (v : Value) (xs : List S33) (p q : S33) (hs : a.eval s = v) (hx : a.eval x = .slice (some ⟨W.heap.size, 0, none⟩) 2 2)
    (HO : k33.R 33 W base (fun _ => True) v xs) (hbase : base ≤ W.heap.size) (hl : xs.length ≤ 2097152)
    (h : ∀ v1 w1, k33.R 33 w1 base (fun _ => True) v1 (xs ++ [p, q]) → (W.alloc (.cells #[.int .i64 p.f0, .int .i64 p.f1, .string p.f2, .string p.f3, .int .i64 q.f0, .int .i64 q.f1, .string q.f2, .string q.f3] 33)).grownBy w1 v.ownBlock → (v1.ownBlock = v.ownBlock ∨ ∃ b, v1.ownBlock = some b ∧ W.heap.size ≤ b) → wpList Tryd.prog ops Q rest (a.put o.dst v1) w1) :
    wpList Tryd.prog ops Q (o :: rest) a (W.alloc (.cells #[.int .i64 p.f0, .int .i64 p.f1, .string p.f2, .string p.f3, .int .i64 q.f0, .int .i64 q.f1, .string q.f2, .string q.f3] 33)) :=
  app33two base hgd s x ho v xs p q hs hx HO (Below.refl _ _) hbase hl (fun v1 w1 h1 _ h3 h4 => h v1 w1 h1 h3 h4)
end
end Go.Proofs.YtjllbkeobibnkaaDoor.Q

namespace Go.Proofs.YtjllbkeobibnkaaDoor.Q
open Go Go.Proofs Go.RowKit Go.Proofs.YtjllbkeobibnkaaDoorK Go.Proofs.YtjllbkeobibnkaaDoorW.PrintWords Go.Proofs.YtjllbkeobibnkaaDoorW.PrintLast Go.Proofs.YtjllbkeobibnkaaDoorW.PrintMore
set_option linter.unusedVariables false
theorem opens_weak {P : Program} {t : TypeId} {α : Type} {d d' : Kd α} {good : α → Prop} (h : Opens P t d good) (hK : ∀ w x cs, d.K w x cs → d'.K w x cs) : Opens P t d' (fun _ => True) := by
  intro H enc w base spare held fuel cs x hx
  obtain ⟨a, ha, _⟩ := h H enc w base spare held fuel cs x hx
  exact ⟨a, hK _ _ _ ha, trivial⟩
def k51 : Kd S51 := Kd.iso (Kd.pair (Kd.int .i64) (Kd.pair (Kd.int .i64) kSum)) (fun x => (x.f0, (x.f1, x.f2)))
theorem k51_K {w : World} {x : S51} {cs : List Value} (h : k51.K w x cs) : cs = L51 x := by
  obtain ⟨c0, c1, rfl, h0, c2, c3, rfl, h2, h3⟩ := h
  rw [show c0 = [Value.int .i64 x.f0] from h0, show c2 = [Value.int .i64 x.f1] from h2, show c3 = sumL x.f2 from h3]
  rfl
theorem opens49 : Opens Tryd.prog 49 kSum (fun _ => True) := opens_sum Tryd.underlying49 Tryd.underlying5 (by kernel_rfl) (by kernel_rfl)
theorem opens51 : Opens Tryd.prog 51 k51 (fun _ => True) :=
  opens_weak (opens_struct (d := Kd.pair (Kd.int .i64) (Kd.pair (Kd.int .i64) kSum)) Tryd.underlying51 (by kernel_rfl) (opensAt_cons rfl (by kernel_rfl) (opens_int Tryd.underlying3) (opensAt_cons rfl (by kernel_rfl) (opens_int Tryd.underlying3) (opensAt_last rfl (by kernel_rfl) opens49))) (fun x : S51 => (x.f0, (x.f1, x.f2))) (fun p => ⟨p.1, p.2.1, p.2.2⟩) (fun _ => rfl)) (fun _ _ _ h => h)
theorem opens58 : Opens Tryd.prog 58 k58 (fun _ => True) :=
  opens_weak (opens_struct (d := Kd.pair Kd.string k51) Tryd.underlying58 (by kernel_rfl) (opensAt_cons rfl (by kernel_rfl) (opens_string Tryd.underlying9) (opensAt_last rfl (by kernel_rfl) opens51)) (fun x : S58 => (x.f0, x.f1)) (fun p => ⟨p.1, p.2⟩) (fun _ => rfl)) (fun w x cs h => by
    obtain ⟨c0, c1, rfl, h0, h1⟩ := h
    rw [show c0 = [Value.string x.f0] from h0, k51_K h1]
    rfl)
theorem opens22 : Opens Tryd.prog 22 (Kd.slice 58 k58) (fun _ => True) := opens_weak (opens_slice (e := 58) Tryd.underlying22 (by kernel_rfl) opens58) (fun _ _ _ h => h)
def k24 : Kd S24 := Kd.iso (Kd.pair (Kd.slice 58 k58) (Kd.pair (Kd.slice 58 k58) (Kd.slice 58 k58))) (fun x => (x.f0, (x.f1, x.f2)))
theorem opens24 : Opens Tryd.prog 24 k24 (fun _ => True) :=
  opens_weak (opens_struct (d := Kd.pair (Kd.slice 58 k58) (Kd.pair (Kd.slice 58 k58) (Kd.slice 58 k58))) Tryd.underlying24 (by kernel_rfl) (opensAt_cons rfl (by kernel_rfl) opens22 (opensAt_cons rfl (by kernel_rfl) opens22 (opensAt_last rfl (by kernel_rfl) opens22))) (fun x : S24 => (x.f0, (x.f1, x.f2))) (fun p => ⟨p.1, p.2.1, p.2.2⟩) (fun _ => rfl)) (fun _ _ _ h => h)
theorem k24_side {w : World} {x : S24} {cs : Array Value} (h : k24.K w x cs.toList) : SideIn w x cs := by
  obtain ⟨c0, c1, e, ⟨A, c, e0, h0, h1⟩, c2, c3, e', ⟨B, d, e2, h2, h3⟩, ⟨C, x3, e4, h4, h5⟩⟩ := h
  subst e' e0 e2 e4
  refine ⟨⟨A, c, B, d, C, x3, ?_, h0, h2, h4, h1, h3, h5⟩⟩
  cases cs
  exact congrArg Array.mk e
end Go.Proofs.YtjllbkeobibnkaaDoor.Q

namespace Go.Proofs.YtjllbkeobibnkaaDoorP
open Go Go.Lib
/-- A text, parted at each byte 47. -/
def names : List UInt8 → List (List UInt8)
  | [] => [[]]
  | c :: l => if c = 47 then [] :: names l else match names l with
    | [] => [[c]]
    | n :: ns => (c :: n) :: ns
theorem names_ne (l : List UInt8) : names l ≠ [] := by
  cases l with
  | nil => simp [names]
  | cons c l =>
    unfold names
    split
    · simp
    · split <;> simp
theorem index_cons_eq (l : List UInt8) (c : UInt8) : index (c :: l) [c] = 0 := by
  unfold index
  simp [List.isPrefixOf]
theorem index_cons_ne (l : List UInt8) (b c : UInt8) (h : b ≠ c) : index (b :: l) [c] = if index l [c] == -1 then -1 else index l [c] + 1 := by
  rw [index]
  have h2 : ([c] : List UInt8).isPrefixOf (b :: l) = false := by simp [List.isPrefixOf, Ne.symm h]
  rw [h2]
  rfl
theorem index_ge (l : List UInt8) (c : UInt8) : -1 ≤ index l [c] := by
  induction l with
  | nil => simp [index]
  | cons b l ih =>
    by_cases h : b = c
    · subst h; rw [index_cons_eq]; omega
    · rw [index_cons_ne l b c h]
      split <;> omega
theorem index_none (l : List UInt8) (c : UInt8) : index l [c] = -1 ↔ count l [c] = 0 := by
  induction l with
  | nil => simp [index, count, countFrom]
  | cons b l ih =>
    have hg := index_ge l c
    by_cases h : b = c
    · subst h
      rw [index_cons_eq, count_cons_eq]
      omega
    · rw [index_cons_ne l b c h, count_cons_ne b c l h, ← ih]
      by_cases h2 : index l [c] = -1
      · simp [h2]
      · rw [if_neg (by simpa using h2)]
        omega
theorem split_names (l : List UInt8) : splitK [47] 0 (count l [47]) l = names l := by
  induction l with
  | nil => rfl
  | cons b l ih =>
    by_cases h : b = 47
    · subst h
      rw [count_cons_eq, Nat.add_comm, splitK, index_cons_eq, if_neg (by decide)]
      simp only [names, if_pos]
      simpa using ih
    · rw [count_cons_ne b 47 l h]
      simp only [names, if_neg h]
      rw [← ih]
      cases hk : count l [47] with
      | zero => simp [splitK]
      | succ k =>
        have hi : index l [47] ≠ -1 := fun e => by have := (index_none l 47).1 e; omega
        have hg := index_ge l 47
        obtain ⟨i, hii⟩ : ∃ i : Nat, index l [47] = (i : Int) := ⟨(index l [47]).toNat, by omega⟩
        rw [splitK, splitK, index_cons_ne l b 47 h, hii]
        have e1 : ¬ ((i : Int) == -1) = true := by simp <;> omega
        have e2 : ¬ ((i : Int) + 1 == -1) = true := by simp <;> omega
        rw [if_neg e1, if_neg e2, if_neg e1]
        have e3 : ((i : Int) + 1).toNat = i + 1 := by omega
        have e4 : (i : Int).toNat = i := by omega
        rw [e3, e4]
        simp
/-- names, put together again. -/
def joinN : List (List UInt8) → List UInt8
  | [] => []
  | [n] => n
  | n :: m :: ns => n ++ 47 :: joinN (m :: ns)
theorem joinN_cons (c : UInt8) (n : List UInt8) (ns : List (List UInt8)) : joinN ((c :: n) :: ns) = c :: joinN (n :: ns) := by
  cases ns <;> simp [joinN]
theorem joinN_names (l : List UInt8) : joinN (names l) = l := by
  induction l with
  | nil => rfl
  | cons c l ih =>
    have hne := names_ne l
    unfold names
    by_cases h : c = 47
    · rw [if_pos h]
      cases hn : names l with
      | nil => exact absurd hn hne
      | cons m ms => rw [joinN, ← hn, ih, h]; rfl
    · rw [if_neg h]
      cases hn : names l with
      | nil => exact absurd hn hne
      | cons m ms =>
        simp only
        rw [joinN_cons, ← hn, ih]
theorem names_inj {a b : List UInt8} (h : names a = names b) : a = b := by rw [← joinN_names a, ← joinN_names b, h]
/-- A comparison that parts whatever two are not one. -/
structure Good {α : Type} (f : α → α → Int) : Prop where
  refl : ∀ x, f x x = 0
  eq : ∀ x y, f x y = 0 → x = y
  lt : ∀ x y, f x y < 0 ↔ 0 < f y x
  trans : ∀ x y z, f x y < 0 → f y z < 0 → f x z < 0
/-- One list against another one, element by element. -/
def lexC {α : Type} (f : α → α → Int) : List α → List α → Int
  | [], [] => 0
  | [], _ :: _ => -1
  | _ :: _, [] => 1
  | a :: l, b :: m => if f a b = 0 then lexC f l m else f a b
theorem good_lex {α : Type} {f : α → α → Int} (g : Good f) : Good (lexC f) := by
  have hlt : ∀ x y : List α, lexC f x y < 0 ↔ 0 < lexC f y x := by
    intro x
    induction x with
    | nil =>
      intro y
      cases y <;> simp [lexC]
    | cons a la ih =>
      intro y
      cases y with
      | nil => simp [lexC]
      | cons b bs =>
        have h1 := g.lt a b
        have h2 := g.lt b a
        simp only [lexC]
        by_cases h : f a b = 0
        · have h' : f b a = 0 := by omega
          rw [if_pos h, if_pos h']
          exact ih bs
        · have h' : ¬ f b a = 0 := by omega
          rw [if_neg h, if_neg h']
          exact h1
  refine ⟨?_, ?_, hlt, ?_⟩
  · intro x
    induction x with
    | nil => rfl
    | cons a la ih => simp only [lexC]; rw [if_pos (g.refl a)]; exact ih
  · intro x
    induction x with
    | nil =>
      intro y h
      cases y with
      | nil => rfl
      | cons b bs => simp [lexC] at h
    | cons a la ih =>
      intro y h
      cases y with
      | nil => simp [lexC] at h
      | cons b bs =>
        simp only [lexC] at h
        by_cases h1 : f a b = 0
        · rw [if_pos h1] at h
          rw [g.eq a b h1, ih bs h]
        · rw [if_neg h1] at h
          exact absurd h h1
  · intro x
    induction x with
    | nil =>
      intro y z h1 h2
      cases z with
      | nil =>
        cases y with
        | nil => exact h1
        | cons b bs => simp [lexC] at h2
      | cons c cs => simp [lexC]
    | cons a la ih =>
      intro y z h1 h2
      cases y with
      | nil => simp [lexC] at h1
      | cons b bs =>
        cases z with
        | nil => simp [lexC] at h2
        | cons c cs =>
          simp only [lexC] at h1 h2 ⊢
          by_cases e1 : f a b = 0
          · have ea := g.eq a b e1
            subst ea
            rw [if_pos e1] at h1
            by_cases e2 : f a c = 0
            · rw [if_pos e2] at h2 ⊢
              exact ih bs cs h1 h2
            · rw [if_neg e2] at h2 ⊢
              exact h2
          · rw [if_neg e1] at h1
            by_cases e2 : f b c = 0
            · have eb := g.eq b c e2
              subst eb
              rw [if_neg e1]
              exact h1
            · rw [if_neg e2] at h2
              have h3 := g.trans a b c h1 h2
              rw [if_neg (by omega)]
              exact h3
def cmpU (a b : UInt8) : Int := if a < b then -1 else if b < a then 1 else 0
theorem cmpU_nat (a b : UInt8) : cmpU a b = if a.toNat < b.toNat then -1 else if b.toNat < a.toNat then 1 else 0 := by
  have hl : ∀ a b : UInt8, a < b ↔ a.toNat < b.toNat := fun a b => UInt8.lt_iff_toNat_lt
  unfold cmpU
  simp only [hl]
theorem good_u : Good cmpU := by
  refine ⟨?_, ?_, ?_, ?_⟩
  · intro x
    simp [cmpU]
  · intro x y h
    rw [cmpU_nat] at h
    apply UInt8.toNat.inj
    split at h
    · omega
    · split at h <;> omega
  · intro x y
    rw [cmpU_nat, cmpU_nat]
    split <;> split <;> (try split) <;> omega
  · intro x y z
    rw [cmpU_nat, cmpU_nat, cmpU_nat]
    split <;> split <;> (try split) <;> (try split) <;> (try split) <;> omega
theorem compare_lex : ∀ a b : List UInt8, compareBytes a b = lexC cmpU a b
  | [], [] => rfl
  | [], _ :: _ => rfl
  | _ :: _, [] => rfl
  | a :: la, b :: bs => by
    simp only [compareBytes, lexC, cmpU]
    rw [compare_lex la bs]
    by_cases h1 : a < b
    · simp [h1]
    · by_cases h2 : b < a
      · simp [h1, h2]
      · simp [h1, h2]
theorem good_bytes : Good compareBytes := by
  have h : compareBytes = lexC cmpU := by funext a b; exact compare_lex a b
  rw [h]
  exact good_lex good_u
/-- path.Compare: name by name, then by their number. -/
def cmpN : List (List UInt8) → List (List UInt8) → Int := lexC compareBytes
theorem good_names : Good cmpN := good_lex good_bytes
def pcmp (a b : ByteArray) : Int := cmpN (names a.data.toList) (names b.data.toList)
theorem good_path : Good pcmp where
  refl x := good_names.refl _
  eq x y h := by
    have h1 := names_inj (good_names.eq _ _ h)
    exact ByteArray.ext (Array.ext' h1)
  lt x y := good_names.lt _ _
  trans x y z := good_names.trans _ _ _
end Go.Proofs.YtjllbkeobibnkaaDoorP
