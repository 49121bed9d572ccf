/- Parts of the proof: PExec, PLaws, HRPaths, PWorks, HPlan, HWorks1, HWorks, HTells, Q65, HScoped, PReady. -/
import Derived.Test.YtjllbkeobibnkaaDoorZO7
import Derived.Test.YtjllbkeobibnkaaDoorZO5
import Derived.Test.YtjllbkeobibnkaaDoorZO4
import Derived.Test.YtjllbkeobibnkaaDoorZO1
import Derived.Test.YtjllbkeobibnkaaDoorWWords
import Derived.Test.YtjllbkeobibnkaaDoorWMore
import Derived.Test.YtjllbkeobibnkaaDoorZO2
set_option linter.unusedVariables false
set_option linter.unusedSimpArgs false
namespace Go.Proofs.YtjllbkeobibnkaaDoor.Q
open Go Go.Proofs Go.RowKit Go.Lib Go.Sort Go.Proofs.YtjllbkeobibnkaaDoorP Go.Proofs.YtjllbkeobibnkaaDoorK
set_option linter.unusedVariables false
set_option linter.unusedSimpArgs false
theorem n87 : ¬ (8 : Int) = 7 := by decide
theorem n17 : ¬ (1 : Int) = 7 := by decide
theorem n78 : (7 : Int) ≠ 8 := by decide
theorem n18 : (1 : Int) ≠ 8 := by decide
theorem allS_do {top : Int} {i : Nat} {x : S33} {l : List S33} {s t : S24} {st : Bool} (h8 : x.f0 ≠ 8) (hd : doS s x (verS top i) = (t, 0)) : allS top i (x :: l) s st = allS top (i + 1) l t st := by
  rw [allS, if_neg h8, hd, if_pos rfl]
theorem allS_stuck {top : Int} {i : Nat} {x : S33} {l : List S33} {s : S24} {st : Bool} (h8 : x.f0 = 8) : allS top i (x :: l) s st = allS top (i + 1) l s true := by
  rw [allS, if_pos h8]
theorem verS_ok {top : Int} (h : 1 ≤ top) (i : Nat) : 1 ≤ verS top i ∧ verS top i ≤ 1099511627776 := by
  unfold verS
  split <;> omega
theorem step7 {g : Option S51 × Option S51 × Option S51} {p : ByteArray} (h : (stepS (stG g) p).f0 = 7) : ∃ l r, g.2.1 = some l ∧ g.2.2 = some r ∧ stepS (stG g) p = ⟨7, r.f0, p, eB⟩ := by
  obtain ⟨a, l, r⟩ := g
  have hL : (stG (a, l, r)).inL = l.isSome := rfl
  have hR : (stG (a, l, r)).inR = r.isSome := rfl
  have hr : (stG (a, l, r)).r = r.getD z51 := rfl
  generalize stG (a, l, r) = x at *
  obtain ⟨xa, xl, xr, ia, il, ir, he, th⟩ := x
  dsimp only at hL hR hr
  subst hL hR hr
  cases he <;> cases th <;> cases l <;> cases r <;> simp [stepS, z33] at h ⊢
  all_goals first
    | done
    | (split at h <;> first | (simp at h; done) | (rename_i hc; exact Bool.eq_false_iff.2 hc) | simp_all)
structure FreeQ (s : S24) (inn ch : List ByteArray) (p q : ByteArray) : Prop where
  no : hasK s q = false
  new : q ∉ ch
  file : kindS q = (2, 0)
  inn : hasS inn p = true → hasS inn q = true
theorem inL_iff (l : List ByteArray) (q : ByteArray) : inL l q = true ↔ q ∈ l := by
  unfold inL
  rw [List.any_eq_true]
  constructor
  · rintro ⟨x, hx, he⟩
    rw [beq_iff_eq, tlB] at he
    exact he ▸ hx
  · exact fun h => ⟨q, h, beq_iff_eq.2 rfl⟩
theorem free_q {s : S24} {inn ch : List ByteArray} {p : ByteArray} (hd : ∀ d ∈ inn, kindS d ≠ (2, 0)) (h : (freeN (cpK p) (takenS s ch) 999 1).2 = true) : FreeQ s inn ch p (freeN (cpK p) (takenS s ch) 999 1).1 := by
  obtain ⟨j, hj, e, hp, hk, ht⟩ := free_some 999 1 (by omega) h
  rw [e]
  unfold takenS at ht
  rw [Bool.or_eq_false_iff] at ht
  have hf := cp_file hp hj hk
  exact ⟨ht.1, fun hm => by have := (inL_iff ch _).2 hm; rw [this] at ht; exact absurd ht.2 (by decide), hf, fun hi => cp_in hp hj hf hd hi⟩
theorem chunk_cases {s : S24} {inn ch : List ByteArray} (p : ByteArray) (hd : ∀ d ∈ inn, kindS d ≠ (2, 0)) :
    (hasS inn p = false ∧ chunkP s inn ch p = ([], [])) ∨
    (hasS inn p = true ∧ (stepS (atS s p) p).f0 = 0 ∧ chunkP s inn ch p = ([], [])) ∨
    (hasS inn p = true ∧ (stepS (atS s p) p).f0 ≠ 0 ∧ (stepS (atS s p) p).f0 ≠ 7 ∧ chunkP s inn ch p = ([stepS (atS s p) p], [])) ∨
    (hasS inn p = true ∧ (stepS (atS s p) p).f0 = 7 ∧ ∃ u, chunkP s inn ch p = ([⟨8, u, p, eB⟩], [])) ∨
    (hasS inn p = true ∧ (stepS (atS s p) p).f0 = 7 ∧ ∃ q u, stepS (atS s p) p = ⟨7, u, p, eB⟩ ∧ chunkP s inn ch p = ([⟨7, u, p, q⟩, ⟨1, 0, q, eB⟩], [q]) ∧ FreeQ s inn ch p q) := by
  cases hin : hasS inn p with
  | false => exact .inl ⟨rfl, by unfold chunkP; rw [if_pos hin]⟩
  | true =>
    right
    have h1 : ¬ hasS inn p = false := by rw [hin]; decide
    by_cases h7 : (stepS (atS s p) p).f0 = 7
    · right; right
      cases hf : (freeN (cpK p) (takenS s ch) 999 1).2 with
      | false => exact .inl ⟨rfl, h7, _, by unfold chunkP; rw [if_neg h1, if_pos h7, if_neg (by rw [hf]; decide)]⟩
      | true =>
        right
        have hq := free_q (inn := inn) hd hf
        have hst : stepS (atS s p) p = ⟨7, (stepS (atS s p) p).f1, p, eB⟩ := by
          rw [atS_st] at h7 ⊢
          obtain ⟨l, r, _, _, e⟩ := step7 h7
          rw [e]
        refine ⟨rfl, h7, _, _, hst, ?_, hq⟩
        unfold chunkP
        rw [if_neg h1, if_pos h7, if_pos hf]
        generalize freeN (cpK p) (takenS s ch) 999 1 = z
        rw [hst]
    · by_cases h0 : (stepS (atS s p) p).f0 = 0
      · exact .inl ⟨rfl, h0, by unfold chunkP; rw [if_neg h1, if_neg h7, if_pos h0]⟩
      · exact .inr (.inl ⟨rfl, h0, h7, by unfold chunkP; rw [if_neg h1, if_neg h7, if_neg h0]⟩)
/-- What is known of a plan's steps. -/
def StepIn (s : S24) (inn ch l : List ByteArray) (x : S33) : Prop :=
  hasS inn x.f2 = true ∧ ((x.f2 ∈ l ∧ (x.f0 ≠ 7 → x.f3 = eB) ∧ (x.f0 = 7 → hasK s x.f3 = false ∧ x.f3 ∉ ch ∧ kindS x.f3 = (2, 0) ∧ hasS inn x.f3 = true)) ∨ (x.f0 = 1 ∧ x.f3 = eB ∧ hasK s x.f2 = false ∧ x.f2 ∉ ch ∧ kindS x.f2 = (2, 0)))
theorem StepIn.more {s : S24} {inn ch ch' l l' : List ByteArray} {x : S33} (h : StepIn s inn ch l x) (hc : ∀ q ∈ ch', q ∈ ch) (hl : ∀ q ∈ l, q ∈ l') : StepIn s inn ch' l' x := by
  obtain ⟨h1, h2⟩ := h
  refine ⟨h1, ?_⟩
  rcases h2 with ⟨a, b, c⟩ | ⟨a, b, c, d, e⟩
  · exact .inl ⟨hl _ a, b, fun h => by have := c h; exact ⟨this.1, fun hm => this.2.1 (hc _ hm), this.2.2⟩⟩
  · exact .inr ⟨a, b, c, fun hm => d (hc _ hm), e⟩
theorem plan_in {s : S24} {inn : List ByteArray} (hd : ∀ d ∈ inn, kindS d ≠ (2, 0)) : ∀ (l ch : List ByteArray), ∀ x ∈ planR s inn ch l, StepIn s inn ch l x := by
  intro l
  induction l with
  | nil => intro ch x hx; cases hx
  | cons p l ih =>
    intro ch x hx
    unfold planR at hx
    rcases List.mem_append.1 hx with hx | hx
    · rcases chunk_cases (s := s) (ch := ch) p hd with ⟨_, e⟩ | ⟨_, _, e⟩ | ⟨hin, h0, h7, e⟩ | ⟨hin, h7, u, e⟩ | ⟨hin, h7, q, u, hst, e, hf⟩
      · rw [e] at hx; cases hx
      · rw [e] at hx; cases hx
      · rw [e] at hx
        rw [List.mem_singleton.1 hx]
        have hp := stepS_path _ _ h0
        exact ⟨by rw [hp]; exact hin, .inl ⟨by rw [hp]; exact List.mem_cons_self, fun _ => stepS_to _ _, fun h => absurd h h7⟩⟩
      · rw [e] at hx
        rw [List.mem_singleton.1 hx]
        exact ⟨hin, .inl ⟨List.mem_cons_self, fun _ => rfl, fun h => absurd h n87⟩⟩
      · rw [e] at hx
        rcases List.mem_cons.1 hx with hx | hx
        · rw [hx]
          exact ⟨hin, .inl ⟨List.mem_cons_self, fun h => absurd rfl h, fun _ => ⟨hf.no, hf.new, hf.file, hf.inn hin⟩⟩⟩
        · rw [List.mem_singleton.1 hx]
          exact ⟨hf.inn hin, .inr ⟨rfl, rfl, hf.no, hf.new, hf.file⟩⟩
    · exact (ih _ x hx).more (fun q hq => List.mem_append_left _ hq) (fun q hq => List.mem_cons_of_mem _ hq)
def no7 (steps : List S33) (p : ByteArray) : Prop := ∀ x ∈ steps, x.f0 = 7 → x.f2 ≠ p
theorem no7_cons {x : S33} {l : List S33} {p : ByteArray} (h : x.f0 = 7 → x.f2 ≠ p) (hl : no7 l p) : no7 (x :: l) p := by
  intro y hy
  rcases List.mem_cons.1 hy with e | hy
  · rw [e]; exact h
  · exact hl y hy
/-- What all steps leave of a path. -/
def LeftP (s : S24) (inn : List ByteArray) (steps : List S33) (T : S24) (p : ByteArray) : Prop :=
  (no7 steps p ∧ ((hasS inn p = false ∧ gK T p = gK s p) ∨ (hasS inn p = true ∧ (stepS (atS s p) p).f0 ≠ 7 ∧ ∃ v, gK T p = aftG (stepS (atS s p) p).f0 (gK s p) v) ∨ (hasS inn p = true ∧ (stepS (atS s p) p).f0 = 7 ∧ gK T p = gK s p ∧ ∃ x ∈ steps, x.f0 = 8 ∧ x.f2 = p))) ∨
  (hasS inn p = true ∧ (stepS (atS s p) p).f0 = 7 ∧ ∃ q v, (∃ x ∈ steps, x.f0 = 7 ∧ x.f2 = p) ∧ (∀ x ∈ steps, x.f0 = 7 → x.f2 = p → x.f3 = q) ∧ gK T p = aftG 7 (gK s p) 0 ∧ getK T.f1 q = (gK s p).2.1.map fun l => { l with f0 := v })
theorem LeftP.cons {s : S24} {inn : List ByteArray} {steps : List S33} {T : S24} {p : ByteArray} {x : S33} (h : LeftP s inn steps T p) (hx : x.f0 = 7 → x.f2 ≠ p) : LeftP s inn (x :: steps) T p := by
  rcases h with ⟨h1, h2⟩ | ⟨h1, h2, q, v, h3, h4, h5⟩
  · refine .inl ⟨no7_cons hx h1, ?_⟩
    rcases h2 with h | h | ⟨a, b, c, y, hy, d⟩
    · exact .inl h
    · exact .inr (.inl h)
    · exact .inr (.inr ⟨a, b, c, y, List.mem_cons_of_mem _ hy, d⟩)
  · refine .inr ⟨h1, h2, q, v, ?_, ?_, h5⟩
    · obtain ⟨y, hy, d⟩ := h3
      exact ⟨y, List.mem_cons_of_mem _ hy, d⟩
    · intro y hy h7 hp
      rcases List.mem_cons.1 hy with e | hy
      · rw [e] at h7 hp; exact absurd hp (hx h7)
      · exact h4 y hy h7 hp
structure Inv (s t : S24) (ch l : List ByteArray) : Prop where
  ok : OkS t
  old : ∀ p ∈ l, gK t p = gK s p
  free : ∀ q, hasK s q = false → q ∉ ch → gK t q = noG
theorem exec {s : S24} {inn : List ByteArray} {top : Int} (htop : 1 ≤ top) (hd : ∀ d ∈ inn, kindS d ≠ (2, 0)) : ∀ (l ch : List ByteArray) (i : Nat) (t : S24) (st : Bool), l.Nodup → (∀ p ∈ l, hasK s p = true) → (∀ q ∈ ch, hasK s q = false) → Inv s t ch l →
    ∃ T st', allS top i (planR s inn ch l) t st = (T, st', true) ∧ OkS T ∧ (∀ q, q ∉ l → (∀ x ∈ planR s inn ch l, x.f0 = 7 → x.f3 ≠ q) → gK T q = gK t q) ∧ ∀ p ∈ l, LeftP s inn (planR s inn ch l) T p := by
  intro l
  induction l with
  | nil => intro ch i t st _ _ _ hI; exact ⟨t, st, rfl, hI.ok, fun _ _ _ => rfl, fun p hp => by cases hp⟩
  | cons p l ih =>
    intro ch i t st hnd hK hch hI
    obtain ⟨hpl, hnd'⟩ := List.nodup_cons.1 hnd
    have hK' : ∀ q ∈ l, hasK s q = true := fun q hq => hK q (List.mem_cons_of_mem _ hq)
    have hKp := hK p List.mem_cons_self
    have hgp := hI.old p List.mem_cons_self
    have hne : ∀ q ∈ l, q ≠ p := fun q hq e => hpl (e ▸ hq)
    have hno : ∀ q, hasK s q = false → q ≠ p := fun q hq e => by rw [e, hKp] at hq; cases hq
    have hin := plan_in (s := s) (inn := inn) hd l
    have h7l : ∀ ch', no7 (planR s inn ch' l) p := by
      intro ch' x hx h7 e
      rcases (hin ch' x hx).2 with ⟨h, _⟩ | ⟨h, _⟩
      · exact hpl (e ▸ h)
      · rw [h7] at h; exact absurd h (by decide)
    have h7f : ∀ ch' x, x ∈ planR s inn ch' l → x.f0 = 7 → hasK s x.f3 = false ∧ x.f3 ∉ ch' := by
      intro ch' x hx h7
      rcases (hin ch' x hx).2 with ⟨_, _, h⟩ | ⟨h, _⟩
      · exact ⟨(h h7).1, (h h7).2.1⟩
      · rw [h7] at h; exact absurd h (by decide)
    have hpt : ∀ ch' x, x ∈ planR s inn ch' l → x.f0 = 7 → x.f3 ≠ p := fun ch' x hx h7 => hno _ (h7f ch' x hx h7).1
    rcases chunk_cases (s := s) (ch := ch) p hd with ⟨hin, e⟩ | ⟨hin, h0, e⟩ | ⟨hin, h0, h7, e⟩ | ⟨hin, h7, u, e⟩ | ⟨hin, h7, q, u, hst, e, hf⟩
    · have hpr : planR s inn ch (p :: l) = planR s inn ch l := by rw [planR, e]; simp
      rw [hpr]
      obtain ⟨T, st', h1, h2, h3, h4⟩ := ih ch i t st hnd' hK' hch ⟨hI.ok, fun q hq => hI.old q (List.mem_cons_of_mem _ hq), hI.free⟩
      refine ⟨T, st', h1, h2, fun q hq hx => h3 q (fun h => hq (List.mem_cons_of_mem _ h)) hx, fun q hq => ?_⟩
      rcases List.mem_cons.1 hq with e | hq
      · subst e
        exact .inl ⟨h7l ch, .inl ⟨hin, (h3 q hpl (hpt ch)).trans hgp⟩⟩
      · exact h4 q hq
    · have hpr : planR s inn ch (p :: l) = planR s inn ch l := by rw [planR, e]; simp
      rw [hpr]
      obtain ⟨T, st', h1, h2, h3, h4⟩ := ih ch i t st hnd' hK' hch ⟨hI.ok, fun q hq => hI.old q (List.mem_cons_of_mem _ hq), hI.free⟩
      refine ⟨T, st', h1, h2, fun q hq hx => h3 q (fun h => hq (List.mem_cons_of_mem _ h)) hx, fun q hq => ?_⟩
      rcases List.mem_cons.1 hq with e | hq
      · subst e
        exact .inl ⟨h7l ch, .inr (.inl ⟨hin, by rw [h0]; decide, 0, by rw [h0]; exact (h3 q hpl (hpt ch)).trans hgp⟩)⟩
      · exact h4 q hq
    · have hpr : planR s inn ch (p :: l) = stepS (atS s p) p :: planR s inn ch l := by rw [planR, e]; simp
      rw [hpr]
      have hp := stepS_path _ _ h0
      have h8 := stepS_8 (atS s p) p
      have hat : atS s p = stG (gK t (stepS (atS s p) p).f2) := by rw [hp, hgp, atS_st]
      have hrd : readyS t (stepS (atS s p) p) (stG (gK t (stepS (atS s p) p).f2)) = true := by
        rw [hp, hgp]
        rw [atS_st] at h0 h7 ⊢
        exact step_ready h0 h7
      have hv := verS_ok htop i
      have hdo := doS_ok hI.ok hrd hv
      have hg := gK_do (verS top i) hrd
      have hok := ok_do hI.ok hrd hv
      generalize doG t (stepS (atS s p) p) (verS top i) (stG (gK t (stepS (atS s p) p).f2)) = t1 at hdo hg hok
      rw [hp] at hg
      have hgn : ∀ q, q ≠ p → gK t1 q = gK t q := fun q hq => by rw [hg, if_neg hq, if_neg (fun h => h7 h.1)]
      obtain ⟨T, st', h1, h2, h3, h4⟩ := ih ch (i + 1) t1 st hnd' hK' hch ⟨hok, fun q hq => (hgn q (hne q hq)).trans (hI.old q (List.mem_cons_of_mem _ hq)), fun q hq hc => (hgn q (hno q hq)).trans (hI.free q hq hc)⟩
      refine ⟨T, st', (allS_do h8 hdo).trans h1, h2, fun q hq hx => (h3 q (fun h => hq (List.mem_cons_of_mem _ h)) (fun x hxm => hx x (List.mem_cons_of_mem _ hxm))).trans (hgn q (fun e => hq (e ▸ List.mem_cons_self))), fun q hq => ?_⟩
      rcases List.mem_cons.1 hq with e | hq
      · subst e
        refine .inl ⟨no7_cons (fun h => absurd h h7) (h7l ch), .inr (.inl ⟨hin, h7, verS top i, ?_⟩)⟩
        rw [h3 q hpl (hpt ch), hg, if_pos rfl, hgp]
      · exact (h4 q hq).cons (fun h => absurd h h7)
    · have hpr : planR s inn ch (p :: l) = ⟨8, u, p, eB⟩ :: planR s inn ch l := by rw [planR, e]; simp
      rw [hpr]
      obtain ⟨T, st', h1, h2, h3, h4⟩ := ih ch (i + 1) t true hnd' hK' hch ⟨hI.ok, fun q hq => hI.old q (List.mem_cons_of_mem _ hq), hI.free⟩
      refine ⟨T, st', (allS_stuck rfl).trans h1, h2, fun q hq hx => h3 q (fun h => hq (List.mem_cons_of_mem _ h)) (fun x hxm => hx x (List.mem_cons_of_mem _ hxm)), fun q hq => ?_⟩
      rcases List.mem_cons.1 hq with e | hq
      · subst e
        exact .inl ⟨no7_cons (fun h => absurd h n87) (h7l ch), .inr (.inr ⟨hin, h7, (h3 q hpl (hpt ch)).trans hgp, _, List.mem_cons_self, rfl, rfl⟩)⟩
      · exact (h4 q hq).cons (fun h => absurd h n87)
    · have hpr : planR s inn ch (p :: l) = ⟨7, u, p, q⟩ :: ⟨1, 0, q, eB⟩ :: planR s inn (ch ++ [q]) l := by rw [planR, e]; simp
      rw [hpr]
      have hqp := hno q hf.no
      have hgq := hI.free q hf.no hf.new
      have hst' : stepS (stG (gK s p)) p = ⟨7, u, p, eB⟩ := by rw [← atS_st]; exact hst
      obtain ⟨ll, rr, hl, hr, e7⟩ := step7 (g := gK s p) (p := p) (by rw [hst'])
      have hu : u = rr.f0 := by rw [hst'] at e7; injection e7
      have hrd : readyS t ⟨7, u, p, q⟩ (stG (gK t (⟨7, u, p, q⟩ : S33).f2)) = true := by
        show readyS t ⟨7, u, p, q⟩ (stG (gK t p)) = true
        have hkq : hasK t q = false := by rw [hasK_st, hgq]; rfl
        rw [hgp]
        generalize gK s p = g at hl hr
        obtain ⟨a, l0, r0⟩ := g
        dsimp only at hl hr
        subst hl hr
        simp [readyS, heldS, stG, hu, hf.file, hkq]
      have hv := verS_ok htop i
      have hdo := doS_ok hI.ok hrd hv
      have hg := gK_do (verS top i) hrd
      have hok := ok_do hI.ok hrd hv
      generalize doG t ⟨7, u, p, q⟩ (verS top i) (stG (gK t (⟨7, u, p, q⟩ : S33).f2)) = t1 at hdo hg hok
      dsimp only at hg
      have hgn : ∀ y, y ≠ p → y ≠ q → gK t1 y = gK t y := fun y h1 h2 => by rw [hg, if_neg h1, if_neg (fun h => h2 h.2)]
      have hgp1 : gK t1 p = aftG 7 (gK s p) (verS top i) := by rw [hg, if_pos rfl, hgp]
      have hgq1 : gK t1 q = (none, (gK s p).2.1, none) := by rw [hg, if_neg hqp, if_pos ⟨rfl, rfl⟩, hgq, hgp]; rfl
      have hrd2 : readyS t1 ⟨1, 0, q, eB⟩ (stG (gK t1 (⟨1, 0, q, eB⟩ : S33).f2)) = true := by
        show readyS t1 ⟨1, 0, q, eB⟩ (stG (gK t1 q)) = true
        rw [hgq1, hl]
        rfl
      have hv2 := verS_ok htop (i + 1)
      have hdo2 := doS_ok hok hrd2 hv2
      have hg2 := gK_do (verS top (i + 1)) hrd2
      have hok2 := ok_do hok hrd2 hv2
      generalize doG t1 ⟨1, 0, q, eB⟩ (verS top (i + 1)) (stG (gK t1 (⟨1, 0, q, eB⟩ : S33).f2)) = t2 at hdo2 hg2 hok2
      dsimp only at hg2
      have hgn2 : ∀ y, y ≠ p → y ≠ q → gK t2 y = gK t y := fun y h1 h2 => by rw [hg2, if_neg h2, if_neg (fun h => absurd h.1 (by decide))]; exact hgn y h1 h2
      have hgp2 : gK t2 p = aftG 7 (gK s p) 0 := by rw [hg2, if_neg (fun e => hqp e.symm), if_neg (fun h => absurd h.1 (by decide)), hgp1]; rfl
      have hgq2 : getK t2.f1 q = (gK s p).2.1.map fun l => { l with f0 := verS top (i + 1) } := by
        show (gK t2 q).2.1 = _
        rw [hg2, if_pos rfl, hgq1]
        rfl
      have hql : q ∉ l := fun h => by have := hK' q h; rw [hf.no] at this; cases this
      obtain ⟨T, st', h1, h2, h3, h4⟩ := ih (ch ++ [q]) (i + 1 + 1) t2 st hnd' hK' (fun y hy => by
        rcases List.mem_append.1 hy with h | h
        · exact hch y h
        · rw [List.mem_singleton.1 h]; exact hf.no) ⟨hok2, fun y hy => (hgn2 y (hne y hy) (fun e => hql (e ▸ hy))).trans (hI.old y (List.mem_cons_of_mem _ hy)), fun y hy hc => (hgn2 y (hno y hy) (fun e => hc (e ▸ List.mem_append_right _ List.mem_cons_self))).trans (hI.free y hy (fun h => hc (List.mem_append_left _ h)))⟩
      refine ⟨T, st', (allS_do n78 hdo).trans ((allS_do n18 hdo2).trans h1), h2, fun y hy hx => ?_, fun y hy => ?_⟩
      · refine (h3 y (fun h => hy (List.mem_cons_of_mem _ h)) (fun x hxm => hx x (List.mem_cons_of_mem _ (List.mem_cons_of_mem _ hxm)))).trans (hgn2 y (fun e => hy (e ▸ List.mem_cons_self)) (fun e => hx _ List.mem_cons_self rfl e.symm))
      · rcases List.mem_cons.1 hy with e | hy
        · subst e
          refine .inr ⟨hin, h7, q, verS top (i + 1), ⟨_, List.mem_cons_self, rfl, rfl⟩, ?_, (h3 y hpl (hpt _)).trans hgp2, ?_⟩
          · intro x hx hx7 hxp
            rcases List.mem_cons.1 hx with e | hx
            · rw [e]
            · rcases List.mem_cons.1 hx with e | hx
              · rw [e] at hx7; exact absurd hx7 n17
              · exact absurd hxp (h7l _ x hx hx7)
          · have hT : gK T q = gK t2 q := h3 q hql (fun x hx hx7 e => (h7f _ x hx hx7).2 (e ▸ List.mem_append_right _ List.mem_cons_self))
            show (gK T q).2.1 = _
            rw [hT]
            exact hgq2
        · exact ((h4 y hy).cons (fun h => absurd h n17)).cons (fun _ e => hne y hy e.symm)
end Go.Proofs.YtjllbkeobibnkaaDoor.Q

namespace Go.Proofs.YtjllbkeobibnkaaDoor.Q
open Go Go.Proofs Go.RowKit Go.Lib Go.Sort Go.Proofs.YtjllbkeobibnkaaDoorP Go.Proofs.YtjllbkeobibnkaaDoorK
set_option linter.unusedVariables false
set_option linter.unusedSimpArgs false
def risP (l : List ByteArray) : Prop := l.Pairwise fun x y => pcmp x y < 0
theorem merge_ris (x : List ByteArray) : ∀ y, risP x → risP y → risP (mergeL x y) := by
  induction x with
  | nil => intro y _ hy; exact hy
  | cons a x ih =>
    intro y hx
    have hx1 := List.pairwise_cons.1 hx
    induction y with
    | nil =>
      intro hy
      rw [mergeL_end]
      refine List.pairwise_cons.2 ⟨fun z hz => ?_, ih [] hx1.2 hy⟩
      rcases mergeL_mem _ _ z hz with h | h
      · exact hx1.1 z h
      · cases h
    | cons b y ih2 =>
      intro hy
      have hy1 := List.pairwise_cons.1 hy
      rw [mergeL_cons]
      by_cases h1 : pcmp a b < 0
      · rw [if_pos h1]
        refine List.pairwise_cons.2 ⟨fun z hz => ?_, ih _ hx1.2 hy⟩
        rcases mergeL_mem _ _ z hz with h | h
        · exact hx1.1 z h
        · rcases List.mem_cons.1 h with e | h
          · rw [e]; exact h1
          · exact good_path.trans _ _ _ h1 (hy1.1 z h)
      · rw [if_neg h1]
        by_cases h2 : 0 < pcmp a b
        · rw [if_pos h2]
          have hba := (good_path.lt b a).2 h2
          refine List.pairwise_cons.2 ⟨fun z hz => ?_, ih2 hy1.2⟩
          rcases mergeL_mem _ _ z hz with h | h
          · rcases List.mem_cons.1 h with e | h
            · rw [e]; exact hba
            · exact good_path.trans _ _ _ hba (hx1.1 z h)
          · exact hy1.1 z h
        · rw [if_neg h2]
          have e := good_path.eq a b (by omega)
          refine List.pairwise_cons.2 ⟨fun z hz => ?_, ih _ hx1.2 hy1.2⟩
          rcases mergeL_mem _ _ z hz with h | h
          · exact hx1.1 z h
          · rw [e]; exact hy1.1 z h
theorem merge_in (x : List ByteArray) : ∀ y p, p ∈ x ∨ p ∈ y → p ∈ mergeL x y := by
  induction x with
  | nil => intro y p h; exact h.resolve_left (by simp)
  | cons a x ih =>
    intro y
    induction y with
    | nil =>
      intro p h
      rw [mergeL_end]
      rcases List.mem_cons.1 (h.resolve_right (by simp)) with e | h
      · rw [e]; exact List.mem_cons_self
      · exact List.mem_cons_of_mem _ (ih [] p (.inl h))
    | cons b y ih2 =>
      intro p h
      rw [mergeL_cons]
      by_cases h1 : pcmp a b < 0
      · rw [if_pos h1]
        rcases h with h | h
        · rcases List.mem_cons.1 h with e | h
          · rw [e]; exact List.mem_cons_self
          · exact List.mem_cons_of_mem _ (ih _ p (.inl h))
        · exact List.mem_cons_of_mem _ (ih _ p (.inr h))
      · rw [if_neg h1]
        by_cases h2 : 0 < pcmp a b
        · rw [if_pos h2]
          rcases h with h | h
          · exact List.mem_cons_of_mem _ (ih2 p (.inl h))
          · rcases List.mem_cons.1 h with e | h
            · rw [e]; exact List.mem_cons_self
            · exact List.mem_cons_of_mem _ (ih2 p (.inr h))
        · rw [if_neg h2]
          have e := good_path.eq a b (by omega)
          rcases h with h | h
          · rcases List.mem_cons.1 h with e | h
            · rw [e]; exact List.mem_cons_self
            · exact List.mem_cons_of_mem _ (ih _ p (.inl h))
          · rcases List.mem_cons.1 h with e2 | h
            · rw [e2, e]; exact List.mem_cons_self
            · exact List.mem_cons_of_mem _ (ih _ p (.inr h))
theorem pathsK_ris {l : List S58} (h : risK l) : risP (pathsK l) := by
  unfold pathsK risP
  rw [List.pairwise_map]
  exact h
theorem paths_nodup {s : S24} (h : OkS s) : (pathsS s).Nodup := by
  have hr : risP (pathsS s) := merge_ris _ _ (merge_ris _ _ (pathsK_ris h.a.ris) (pathsK_ris h.l.ris)) (pathsK_ris h.r.ris)
  refine List.Pairwise.imp (fun {a b} hab e => ?_) hr
  rw [e, good_path.refl] at hab
  omega
theorem pathsK_iff (l : List S58) (p : ByteArray) : p ∈ pathsK l ↔ (getK l p).isSome = true := by
  unfold pathsK
  rw [List.mem_map]
  constructor
  · rintro ⟨k, hk, rfl⟩
    cases hg : getK l k.f0 with
    | some a => rfl
    | none => exact absurd rfl (get_none.1 hg k hk)
  · intro h
    obtain ⟨a, ha⟩ := Option.isSome_iff_exists.1 h
    exact ⟨_, get_mem ha, rfl⟩
theorem paths_iff (s : S24) (p : ByteArray) : p ∈ pathsS s ↔ hasK s p = true := by
  rw [hasK_st]
  unfold pathsS gK
  simp only [Bool.or_eq_true, ← pathsK_iff]
  constructor
  · intro h
    rcases mergeL_mem _ _ p h with h | h
    · rcases mergeL_mem _ _ p h with h | h
      · exact .inl h
      · exact .inr (.inl h)
    · exact .inr (.inr h)
  · rintro (h | h | h)
    · exact merge_in _ _ _ (.inl (merge_in _ _ _ (.inl h)))
    · exact merge_in _ _ _ (.inl (merge_in _ _ _ (.inr h)))
    · exact merge_in _ _ _ (.inr h)
theorem may_dirs {inn : List ByteArray} (h : mayS inn = true) : ∀ d ∈ inn, kindS d ≠ (2, 0) := by
  unfold mayS at h
  rw [Bool.and_eq_true] at h
  have hd : ∀ (l : List ByteArray) (q : Option ByteArray), mayA q l = true → ∀ d ∈ l, dirS d = 0 := by
    intro l
    induction l with
    | nil => intro q _ d hd; cases hd
    | cons p l ih =>
      intro q hq d hd
      have h2 : dirS p = 0 ∧ mayA (some p) l = true := by
        cases q <;> simp [mayA] at hq
        · exact hq
        · exact ⟨hq.1, hq.2.2.2⟩
      rcases List.mem_cons.1 hd with e | hd
      · rw [e]; exact h2.1
      · exact ih _ h2.2 d hd
  intro d hm e
  have h2 := hd inn none h.1 d hm
  unfold dirS at h2
  rw [if_pos ⟨by rw [e], by rw [e]⟩] at h2
  cases h2
theorem top_ok (s : S24) (h : OkS s) : 1 ≤ topS s ∧ topS s ≤ 1099511627776 := by
  have k1 := fun (k : S58) (hk : k ∈ s.f0) => ((okK_iff 1 k.f0 k.f1).1 (h.a.ok k hk)).2.2.2.2
  have k2 := fun (k : S58) (hk : k ∈ s.f1) => ((okK_iff 0 k.f0 k.f1).1 (h.l.ok k hk)).2.2.2.2
  have k3 := fun (k : S58) (hk : k ∈ s.f2) => ((okK_iff 1 k.f0 k.f1).1 (h.r.ok k hk)).2.2.2.2
  have m1 := mxS_le (a := 1) (b := 1099511627776) (by omega) k1
  have m2 := mxS_le m1.2 k2
  have m3 := mxS_le m2.2 k3
  unfold topS
  omega
/-- All steps of a plan can be done, and what they leave. -/
structure Ran (s : S24) (inn : List ByteArray) (steps : List S33) (T : S24) : Prop where
  ok : OkS T
  out : ∀ p, hasS inn p = false → gK T p = gK s p
  left : ∀ p, hasK s p = true → LeftP s inn steps T p
theorem run_plan {s : S24} {inn : List ByteArray} (hs : OkS s) (hm : mayS inn = true) : ∃ T st, allS (topS s) 0 (planF s inn).1 s false = (T, st, true) ∧ Ran s inn (planF s inn).1 T := by
  rw [planF_eq]
  have hd := may_dirs hm
  obtain ⟨T, st, h1, h2, h3, h4⟩ := exec (top_ok s hs).1 hd (pathsS s) [] 0 s false (paths_nodup hs) (fun p hp => (paths_iff s p).1 hp) (fun q hq => by cases hq) ⟨hs, fun _ _ => rfl, fun q hq _ => hasK_no hq⟩
  refine ⟨T, st, h1, h2, fun p hp => ?_, fun p hp => h4 p ((paths_iff s p).2 hp)⟩
  by_cases hk : p ∈ pathsS s
  · rcases h4 p hk with ⟨_, h | h | h⟩ | h
    · exact h.2
    · rw [hp] at h; cases h.1
    · rw [hp] at h; cases h.1
    · rw [hp] at h; cases h.1
  · refine h3 p hk (fun x hx h7 e => ?_)
    rcases (plan_in hd _ _ x hx).2 with ⟨_, _, h⟩ | ⟨h, _⟩
    · have := (h h7).2.2.2
      rw [e, hp] at this
      cases this
    · rw [h7] at h; exact absurd h (by decide)
theorem plan_steps {s : S24} {inn : List ByteArray} (hm : mayS inn = true) : ∀ x ∈ (planF s inn).1, hasS inn x.f2 = true ∧ (x.f3 = eB ∨ hasS inn x.f3 = true) := by
  rw [planF_eq]
  intro x hx
  obtain ⟨h1, h2⟩ := plan_in (may_dirs hm) _ _ x hx
  refine ⟨h1, ?_⟩
  rcases h2 with ⟨_, h3, h4⟩ | ⟨_, h, _⟩
  · by_cases h7 : x.f0 = 7
    · exact .inr (h4 h7).2.2.2
    · exact .inl (h3 h7)
  · exact .inl h
theorem chg_at {s : S24} (hs : OkS s) (p : ByteArray) : chgS s p = ((stG (gK s p)).here, (stG (gK s p)).there) := by
  unfold chgS
  rw [if_pos ((check_iff s).2 hs), atS_st]
/-- Where just one side changed a path both have what that one has; where none did both have what they had. -/
theorem one_side {s T : S24} {inn : List ByteArray} {steps : List S33} (hs : OkS s) (hr : Ran s inn steps T) {p : ByteArray} (hk : hasK s p = true) (hh : ((chgS s p).1 && (chgS s p).2) = false) (hi : hasS inn p = true) :
    ((if (chgS s p).2 = true then getK s.f2 p else getK s.f1 p) = none ∧ getK T.f0 p = none ∧ getK T.f1 p = none ∧ getK T.f2 p = none) ∨
    (∃ w a l r, (if (chgS s p).2 = true then getK s.f2 p else getK s.f1 p) = some w ∧ getK T.f0 p = some a ∧ getK T.f1 p = some l ∧ getK T.f2 p = some r ∧ alikeS l w = true ∧ ((chgS s p).1 = true → alikeS r w = true) ∧ a.f0 = r.f0 ∧ l.f0 = r.f0) := by
  have hT : gK T p = (getK T.f0 p, getK T.f1 p, getK T.f2 p) := rfl
  have hS : gK s p = (getK s.f0 p, getK s.f1 p, getK s.f2 p) := rfl
  rw [chg_at hs] at hh ⊢
  have hL := hr.left p hk
  unfold LeftP at hL
  rw [atS_st] at hL
  rw [hS] at hh hL ⊢
  rw [hT] at hL
  generalize getK s.f0 p = a at hh hL ⊢
  generalize getK s.f1 p = l at hh hL ⊢
  generalize getK s.f2 p = r at hh hL ⊢
  generalize getK T.f0 p = a' at hL ⊢
  generalize getK T.f1 p = l' at hL ⊢
  generalize getK T.f2 p = r' at hL ⊢
  have hkk : (stepS (stG (a, l, r)) p).f0 ≠ 7 := by
    clear hL
    generalize stG (a, l, r) = x at *
    obtain ⟨xa, xl, xr, ia, il, ir, he, th⟩ := x
    dsimp only at hh
    cases he <;> cases th <;> cases il <;> cases ir <;> simp [stepS, z33] at hh ⊢
    all_goals (split <;> simp)
  have hv : ∃ v, (a', l', r') = aftG (stepS (stG (a, l, r)) p).f0 (a, l, r) v := by
    rcases hL with ⟨_, h | ⟨_, _, h⟩ | ⟨_, h, _⟩⟩ | ⟨_, h, _⟩
    · rw [hi] at h; cases h.1
    · exact h
    · exact absurd h hkk
    · exact absurd h hkk
  clear hL
  obtain ⟨v, hv⟩ := hv
  have hH : (stG (a, l, r)).here = ((l.isSome != a.isSome) || (l.isSome && !alikeS (a.getD z51) (l.getD z51))) := rfl
  have hT : (stG (a, l, r)).there = ((r.isSome != a.isSome) || (r.isSome && ((a.getD z51).f0 != (r.getD z51).f0))) := rfl
  have hL : (stG (a, l, r)).inL = l.isSome := rfl
  have hR : (stG (a, l, r)).inR = r.isSome := rfl
  have hr : (stG (a, l, r)).r = r.getD z51 := rfl
  have hl : (stG (a, l, r)).l = l.getD z51 := rfl
  have ha : (stG (a, l, r)).a = a.getD z51 := rfl
  generalize stG (a, l, r) = x at *
  obtain ⟨xa, xl, xr, ia, il, ir, he, th⟩ := x
  dsimp only at hH hT hL hR hr hl ha hh
  subst hL hR hr ha hl
  cases he <;> cases th <;> cases a <;> cases l <;> cases r <;> simp [stepS, z33] at hH hT hh hv hkk ⊢
  all_goals (try (split at hv))
  all_goals
    simp [aftG] at hv
    obtain ⟨rfl, rfl, rfl⟩ := hv
  all_goals (first
    | exact ⟨rfl, rfl, rfl⟩
    | exact ⟨_, rfl, _, rfl, _, rfl, alike_refl _, alike_refl _, rfl, rfl⟩
    | exact ⟨_, rfl, _, rfl, _, rfl, alike_refl _, rfl, rfl⟩
    | exact ⟨_, rfl, _, rfl, _, rfl, alike_refl _, by omega, by omega⟩)
end Go.Proofs.YtjllbkeobibnkaaDoor.Q

namespace Go.Proofs.YtjllbkeobibnkaaDoor.Q
open Go Go.Proofs Go.Shelf Go.RowKit Go.Lib Go.Sort Go.Proofs.YtjllbkeobibnkaaDoorP Go.Proofs.YtjllbkeobibnkaaDoorK Go.Proofs.YtjllbkeobibnkaaDoorW.PrintWords Go.Proofs.YtjllbkeobibnkaaDoorW.PrintLast Go.Proofs.YtjllbkeobibnkaaDoorW.PrintMore
set_option linter.unusedSimpArgs false
set_option linter.unusedVariables false
/-- What the list of paths is, so far: rising, of few, each of a side's. -/
structure Some58 (s : S24) (n : Nat) (l : List S58) : Prop where
  ris : risK l
  len : l.length ≤ n
  sz : ∀ x ∈ l, x.f0.size ≤ 32000
  has : ∀ x ∈ l, hasK s x.f0 = true
theorem Some58.nil (s : S24) (n : Nat) : Some58 s n [] := ⟨List.Pairwise.nil, Nat.zero_le _, fun _ h => (by cases h), fun _ h => (by cases h)⟩
theorem Some58.with {s : S24} {n : Nat} {l : List S58} (h : Some58 s n l) {k : S58} (hk : k.f0.size ≤ 32000) (hh : hasK s k.f0 = true) : Some58 s (n + 1) (withS l k.f0 k.f1) := by
  rw [withS_ins]
  refine ⟨ins_ris h.ris, by have := ins_len k.f0 k.f1 l; have := h.len; omega, fun x hx => ?_, fun x hx => ?_⟩
  · rcases ins_mem hx with e | hx
    · rw [e]; exact hk
    · exact h.sz x hx
  · rcases ins_mem hx with e | hx
    · rw [e]; exact hh
    · exact h.has x hx
theorem Some58.short {s : S24} {n : Nat} {l : List S58} (h : Some58 s n l) (hn : n ≤ 3000) : shortK l = true := by
  unfold shortK
  rw [decide_eq_true (by have := h.len; omega : l.length ≤ 1048576), Bool.true_and, List.all_eq_true]
  exact fun x hx => decide_eq_true (by have := h.sz x hx; omega)
theorem has_of (s : S24) : (∀ x ∈ s.f0, hasK s x.f0 = true) ∧ (∀ x ∈ s.f1, hasK s x.f0 = true) ∧ (∀ x ∈ s.f2, hasK s x.f0 = true) := by
  have h : ∀ (l : List S58) x, x ∈ l → (getK l x.f0).isSome = true := fun l x hx => (pathsK_iff l x.f0).1 (List.mem_map.2 ⟨x, hx, rfl⟩)
  refine ⟨fun x hx => ?_, fun x hx => ?_, fun x hx => ?_⟩ <;> rw [hasK_st] <;> unfold gK
  · simp [h _ x hx]
  · simp [h _ x hx]
  · simp [h _ x hx]
theorem rwithP (w : World) (A : Option Addr) (c : Nat) (l : List S58) (p : ByteArray) (a : S51) (hC : k58.C w A l.length l) (hs : shortK l = true) (hl : l.length ≤ 100000) (hp : p.size ≤ 65536) (hr : risK l) :
    Calls Tryd.prog 39 #[.slice A l.length c, .agg (A58 ⟨p, a⟩)] w fun e w' => ∃ v, e = .returned v ∧ k58.R 58 w' w.heap.size (fun _ => True) v (withS l p a) ∧ Below w.heap.size w w' := by
  have h := rwith_any w A c l ⟨p, a⟩ hC hs hl hp
  rw [rwA_ins p a hr, ← withS_ins] at h
  exact h
attribute [local go_sem] A51_size A51_0 A51_1 A51_g0 A51_g1 A58_size A58_0 A58_1 A58_2 A58_g0 A58_g1 A58_g2 cell_held frozen_held
attribute [local go_sem] zero51 zero58 zero65
attribute [local go_sem ↓ high] lvx_of
attribute [local go_sem] lv_sc lv24 lv33
attribute [local go_sem ↓ high] lv51 lv51s lv58 lv58a lv65 lv65a lv65l lv65r sc51 sc58 sc65 sc65a sc65l sc65r sc58a
set_option maxRecDepth 100000 in
set_option maxHeartbeats 4000000 in
theorem rpaths_any (w : World) (s : S24) (v : Array Value) (hs : SideIn w s v) (ht : tinyS s = true) :
    Calls Tryd.prog 23 #[.agg v] w fun e w' => ∃ v m, e = .returned v ∧ Kd.string.R 9 w' w.heap.size (fun _ => True) v m ∧ (∀ p ∈ m, hasK s p = true) ∧ m.length ≤ 3000 ∧ (∀ p ∈ m, p.size ≤ 32000) ∧ Below w.heap.size w w' := by
  obtain ⟨A, c, B, d, C, e, rfl, l1, l2, l3, h1, h2, h3⟩ := hs.out
  obtain ⟨t1, t2, t3⟩ := tinyS_open ht
  obtain ⟨m1, m2, m3⟩ := has_of s
  obtain ⟨n1, z1⟩ := fewK_open t1
  obtain ⟨n2, z2⟩ := fewK_open t2
  obtain ⟨n3, z3⟩ := fewK_open t3
  have HC0 := Aside0.mk h1
  have HC1 := Aside0.mk h2
  have HC2 := Aside0.mk h3
  have HF0 := Aside0.mk (fun x hx => And.intro (z1 x hx) (m1 x hx))
  have HF1 := Aside0.mk (fun x hx => And.intro (z2 x hx) (m2 x hx))
  have HF2 := Aside0.mk (fun x hx => And.intro (z3 x hx) (m3 x hx))
  clear hs ht h1 h2 h3 t1 t2 t3 m1 m2 m3 z1 z2 z3 l1 l2 l3
  generalize s.f0 = la at *
  generalize s.f1 = lb at *
  generalize s.f2 = lc at *
  go_enter Tryd.func23, Tryd.ntmps23
  go_wp2_with fail
  obtain ⟨w0, hw0⟩ : ∃ W, w.alloc (.cells #[.slice A la.length c, .slice B lb.length d, .slice C lc.length e] 24) = W := ⟨_, rfl⟩
  have i0 : Go.Proofs.YtjllbkeobibnkaaDoorK.Holds w0 w.heap.size (.cells #[.slice A la.length c, .slice B lb.length d, .slice C lc.length e] 24 (0, 0)) := by rw [← hw0]; infer_instance
  have p0 : Prev w0 w .none := by rw [← hw0]; exact prev_call (bel _ _)
  have s0 : w.heap.size + 1 ≤ w0.heap.size := by rw [← hw0, World.size_alloc]; exact Nat.le_refl _
  rw [hw0]
  clear hw0
  go_loopw [3, 4] (fun u i wr => ∃ (j : Nat) (acc : List S58), j ≤ la.length ∧ i = .int .i64 (j : Int) ∧ Aside0 (Some58 s (0 + j) acc) ∧ Aside0 (k58.R 58 wr w.heap.size (fun _ => True) u acc) ∧ Aside0 (Below w0.heap.size w0 wr)) (fun _ i _ => la.length - (intOf i).toNat)
  case atStart => exact ⟨0, [], Nat.zero_le _, rfl, ⟨Some58.nil _ _⟩, ⟨Kd.R_nil _ _ _ _ _⟩, ⟨Below.refl _ _⟩⟩
  case round =>
    obtain ⟨j, acc, hj, rfl, HS, HO, HB⟩ := hrel
    have pr := prev_call HB.out
    obtain ⟨Ao, co, ho⟩ := Kd.R_slice HO.out
    subst ho
    by_cases hlt : j < la.length
    · obtain ⟨ad, e0, x0⟩ := C58_at (Kd.C_below HC0.out (bel w wr)) j hlt
      subst e0
      have hx := HF0.out _ (List.getElem_mem hlt)
      generalize la[j] = x at x0 hx
      obtain ⟨xp, xa⟩ := x
      have X0 := Aside0.mk x0
      have hd := decide_eq_true (show (j : Int) < (la.length : Int) by omega)
      have HN := Aside0.mk (HS.out.with (k := ⟨xp, xa⟩) hx.1 hx.2)
      have HW := Aside0.mk (fun W A' c' (h : k58.C W A' acc.length acc) => rwithP W A' c' acc xp xa h (HS.out.short (by omega)) (by have := HS.out.len; omega) (by have := hx.1; dsimp only at this; omega) HS.out.ris)
      clear x0 hx
      go_wp2_with (refine seg_load rfl 58 (.tmp 20) rfl X0.out (A58 ⟨xp, xa⟩) rfl rfl Tryd.underlying58 rfl (by rw [L58_len]; exact info58s) ?_)
      refine (HW.out _ _ _ (Kd.R_reads' HO.out).2.2).mono ?_
      rintro r1 w4 ⟨v4, rfl, hv, hb⟩
      have p4 := prev_call hb
      have HV4 := Aside0.mk (Kd.R_lower hv (siz w wr))
      clear hb hv
      go_wp2_with fail
      go_roundw
      case rel => exact ⟨j + 1, _, hlt, by go_num, HN, HV4, ⟨bel _ _⟩⟩
      case measure => simp [intOf]; omega
    · have hd := decide_eq_false (show ¬ (j : Int) < (la.length : Int) by omega)
      have hsl := HS.out.len
      have HSE : Aside0 (Some58 s (la.length + 0) acc) := ⟨⟨HS.out.ris, by omega, HS.out.sz, HS.out.has⟩⟩
      have HOE := HO
      have HBE := HB
      clear HS HO HB hsl
      obtain rfl : j = la.length := by omega
      go_wp2_with fail
      go_loopw [3, 5] (fun u i wr => ∃ (j : Nat) (acc : List S58), j ≤ lb.length ∧ i = .int .i64 (j : Int) ∧ Aside0 (Some58 s (la.length + j) acc) ∧ Aside0 (k58.R 58 wr w.heap.size (fun _ => True) u acc) ∧ Aside0 (Below w0.heap.size w0 wr)) (fun _ i _ => lb.length - (intOf i).toNat)
      case atStart => exact ⟨0, acc, Nat.zero_le _, rfl, ⟨HSE.out⟩, HOE, HBE⟩
      case round =>
        obtain ⟨j, acc, hj, rfl, HS, HO, HB⟩ := hrel
        have pr := prev_call HB.out
        obtain ⟨Ao, co, ho⟩ := Kd.R_slice HO.out
        subst ho
        by_cases hlt : j < lb.length
        · obtain ⟨ad, e0, x0⟩ := C58_at (Kd.C_below HC1.out (bel w wr)) j hlt
          subst e0
          have hx := HF1.out _ (List.getElem_mem hlt)
          generalize lb[j] = x at x0 hx
          obtain ⟨xp, xa⟩ := x
          have X0 := Aside0.mk x0
          have hd := decide_eq_true (show (j : Int) < (lb.length : Int) by omega)
          have HN := Aside0.mk (HS.out.with (k := ⟨xp, xa⟩) hx.1 hx.2)
          have HW := Aside0.mk (fun W A' c' (h : k58.C W A' acc.length acc) => rwithP W A' c' acc xp xa h (HS.out.short (by omega)) (by have := HS.out.len; omega) (by have := hx.1; dsimp only at this; omega) HS.out.ris)
          clear x0 hx
          go_wp2_with (refine seg_load rfl 58 (.tmp 34) rfl X0.out (A58 ⟨xp, xa⟩) rfl rfl Tryd.underlying58 rfl (by rw [L58_len]; exact info58s) ?_)
          refine (HW.out _ _ _ (Kd.R_reads' HO.out).2.2).mono ?_
          rintro r1 w4 ⟨v4, rfl, hv, hb⟩
          have p4 := prev_call hb
          have HV4 := Aside0.mk (Kd.R_lower hv (siz w wr))
          clear hb hv
          go_wp2_with fail
          go_roundw
          case rel => exact ⟨j + 1, _, hlt, by go_num, HN, HV4, ⟨bel _ _⟩⟩
          case measure => simp [intOf]; omega
        · have hd := decide_eq_false (show ¬ (j : Int) < (lb.length : Int) by omega)
          have hsl := HS.out.len
          have HSE : Aside0 (Some58 s (la.length + lb.length + 0) acc) := ⟨⟨HS.out.ris, by omega, HS.out.sz, HS.out.has⟩⟩
          have HOE := HO
          have HBE := HB
          clear HS HO HB hsl
          obtain rfl : j = lb.length := by omega
          go_wp2_with fail
          go_loopw [3, 6] (fun u i wr => ∃ (j : Nat) (acc : List S58), j ≤ lc.length ∧ i = .int .i64 (j : Int) ∧ Aside0 (Some58 s (la.length + lb.length + j) acc) ∧ Aside0 (k58.R 58 wr w.heap.size (fun _ => True) u acc) ∧ Aside0 (Below w0.heap.size w0 wr)) (fun _ i _ => lc.length - (intOf i).toNat)
          case atStart => exact ⟨0, acc, Nat.zero_le _, rfl, ⟨HSE.out⟩, HOE, HBE⟩
          case round =>
            obtain ⟨j, acc, hj, rfl, HS, HO, HB⟩ := hrel
            have pr := prev_call HB.out
            obtain ⟨Ao, co, ho⟩ := Kd.R_slice HO.out
            subst ho
            by_cases hlt : j < lc.length
            · obtain ⟨ad, e0, x0⟩ := C58_at (Kd.C_below HC2.out (bel w wr)) j hlt
              subst e0
              have hx := HF2.out _ (List.getElem_mem hlt)
              generalize lc[j] = x at x0 hx
              obtain ⟨xp, xa⟩ := x
              have X0 := Aside0.mk x0
              have hd := decide_eq_true (show (j : Int) < (lc.length : Int) by omega)
              have HN := Aside0.mk (HS.out.with (k := ⟨xp, xa⟩) hx.1 hx.2)
              have HW := Aside0.mk (fun W A' c' (h : k58.C W A' acc.length acc) => rwithP W A' c' acc xp xa h (HS.out.short (by omega)) (by have := HS.out.len; omega) (by have := hx.1; dsimp only at this; omega) HS.out.ris)
              clear x0 hx
              go_wp2_with (refine seg_load rfl 58 (.tmp 48) rfl X0.out (A58 ⟨xp, xa⟩) rfl rfl Tryd.underlying58 rfl (by rw [L58_len]; exact info58s) ?_)
              refine (HW.out _ _ _ (Kd.R_reads' HO.out).2.2).mono ?_
              rintro r1 w4 ⟨v4, rfl, hv, hb⟩
              have p4 := prev_call hb
              have HV4 := Aside0.mk (Kd.R_lower hv (siz w wr))
              clear hb hv
              go_wp2_with fail
              go_roundw
              case rel => exact ⟨j + 1, _, hlt, by go_num, HN, HV4, ⟨bel _ _⟩⟩
              case measure => simp [intOf]; omega
            · have hd := decide_eq_false (show ¬ (j : Int) < (lc.length : Int) by omega)
              have hsl := HS.out.len
              have HSE : Aside0 (Some58 s (la.length + lb.length + lc.length + 0) acc) := ⟨⟨HS.out.ris, by omega, HS.out.sz, HS.out.has⟩⟩
              have HOE := HO
              have HBE := HB
              clear HS HO HB hsl
              obtain rfl : j = lc.length := by omega
              go_wp2_with fail
              go_loopw [7, 8] (fun u i wr => ∃ j : Nat, j ≤ acc.length ∧ i = .int .i64 (j : Int) ∧ Aside0 (Kd.string.R 9 wr w.heap.size (fun _ => True) u ((acc.take j).map (·.f0))) ∧ Aside0 (k58.R 58 wr w.heap.size (fun _ => True) (.slice Ao acc.length co) acc) ∧ Aside0 (Below w.heap.size w wr)) (fun _ i _ => acc.length - (intOf i).toNat)
              case atStart => exact ⟨0, Nat.zero_le _, rfl, ⟨Kd.R_nil _ _ _ _ _⟩, HOE, ⟨bel _ _⟩⟩
              case round =>
                obtain ⟨j, hj, rfl, HV, HA, HB⟩ := hrel
                have bw : Bel w.heap.size w wr := ⟨fun _ => HB.out⟩
                have hal := HSE.out.len
                have hlv : ((acc.take j).map (·.f0)).length = j := by rw [List.length_map, List.length_take]; omega
                obtain ⟨Av, cv, hv⟩ := Kd.R_slice HV.out
                rw [hlv] at hv
                subst hv
                have sw := HB.out.size
                have zs : Go.Proofs.YtjllbkeobibnkaaDoorK.Size w.heap.size wr := ⟨sw⟩
                by_cases hlt : j < acc.length
                · obtain ⟨ad, e0, x0⟩ := C58_at (Kd.R_reads' HA.out).2.2 j hlt
                  subst e0
                  have ht : acc.take (j + 1) = acc.take j ++ [acc[j]] := List.take_succ_eq_append_getElem hlt
                  generalize acc[j] = x at x0 ht
                  obtain ⟨xp, xa⟩ := x
                  have x1 := (At58 x0).1
                  rw [add_zero_] at x1
                  dsimp only at x1
                  have HT := Aside0.mk ht
                  have hd := decide_eq_true (show (j : Int) < (acc.length : Int) by omega)
                  clear ht x0
                  go_wp2_with ((with_reducible refine gate_builtin (b := .append) (xs := #[.tmp 57, .tmp 63]) rfl ?_); at_builtin; refine put41 w.heap.size rfl (.tmp 57) (.tmp 63) rfl (.slice Av j cv) ((acc.take j).map (·.f0)) xp rfl ?aX ?aO ?aS ?aL ?_; (case aX => first | rfl | (simp only [World.size_setCell, size_setRow, World.size_alloc]; rfl)); (case aO => exact rowX HV.out); (case aS => exact (inferInstance : Go.Proofs.YtjllbkeobibnkaaDoorK.Size w.heap.size _).out); (case aL => omega); intro v6 w6 h6 hg6 hat6; have p6 := prev_grown hg6; have n6 := noRow_g (L := 58 :: k58.E) hg6 (rowX HV.out) (by decide); have o6 := ownB_g hg6 (rowX HV.out) (Nat.le_refl w.heap.size); have HV6 := Aside0.mk h6; clear h6 hg6 hat6)
                  go_roundw
                  case rel => exact ⟨j + 1, hlt, by go_num, ⟨by rw [HT.out, List.map_append]; exact HV6.out⟩, ⟨rowX HA.out⟩, ⟨bel _ _⟩⟩
                  case measure => simp [intOf]; omega
                · have hv := HV.out
                  have hd := decide_eq_false (show ¬ (j : Int) < (acc.length : Int) by omega)
                  have hj2 : j = acc.length := by omega
                  rw [List.take_of_length_le (by omega)] at hv
                  have HVE := Aside0.mk hv
                  clear hv HV
                  go_wp2_with fail
                  go_ret
                  refine ⟨_, _, rfl, HVE.out, ?_, by rw [List.length_map]; omega, ?_, bel _ _⟩
                  · intro p hp
                    obtain ⟨x, hx, rfl⟩ := List.mem_map.1 hp
                    exact HSE.out.has x hx
                  · intro p hp
                    obtain ⟨x, hx, rfl⟩ := List.mem_map.1 hp
                    exact HSE.out.sz x hx
end Go.Proofs.YtjllbkeobibnkaaDoor.Q

namespace Go.Proofs.YtjllbkeobibnkaaDoor.Q
open Go Go.Proofs Go.Shelf Go.RowKit Go.Lib Go.Sort Go.Proofs.YtjllbkeobibnkaaDoorP Go.Proofs.YtjllbkeobibnkaaDoorK
def sumB (b : UInt8) : Sum := ⟨b :: List.replicate 31 0, rfl⟩
def axB : ByteArray := ⟨#[97, 46, 120]⟩
def ax1B : ByteArray := ⟨#[97, 126, 49, 46, 120]⟩
def wkS : S24 := ⟨[⟨axB, ⟨1, 0, sumB 1⟩⟩], [⟨axB, ⟨0, 0, sumB 2⟩⟩], [⟨axB, ⟨2, 0, sumB 3⟩⟩]⟩
theorem tl_loop (b : ByteArray) : b.toList = b.data.toList := ByteArray.toList_eq b
theorem wk_kind : kindS axB = (2, 0) := by decide +kernel
theorem wk_eq (k : S58) (p : ByteArray) : eqP p k = (k.f0.data.toList == p.data.toList) := by unfold eqP; rw [tl_loop, tl_loop]
theorem wk_check : checkS wkS = 0 := by
  unfold checkS
  rw [if_pos (by decide +kernel)]
  rw [if_neg]
  simp [wkS, badK, findS, wk_eq]
theorem wk_may : mayS [eB] = true := by decide +kernel
theorem wk_paths : pathsS wkS = [axB] := by decide +kernel
theorem wk_has : hasS [eB] axB = true := by decide +kernel
theorem wk_find (v : Int) (b : UInt8) : findS [⟨axB, ⟨v, 0, sumB b⟩⟩] axB = (⟨v, 0, sumB b⟩, true) := by
  unfold findS
  rw [if_pos (by rw [wk_eq]; simp)]
theorem wk_at : atS wkS axB = ⟨⟨1, 0, sumB 1⟩, ⟨0, 0, sumB 2⟩, ⟨2, 0, sumB 3⟩, true, true, true, true, true⟩ := by
  unfold atS wkS
  simp only [wk_find]
  rfl
theorem wk_step : stepS (atS wkS axB) axB = ⟨7, 2, axB, eB⟩ := by
  rw [wk_at]
  rfl
theorem wk_no (v : Int) (b : UInt8) : findS [⟨axB, ⟨v, 0, sumB b⟩⟩] ax1B = (z51, false) := by
  unfold findS
  rw [if_neg (by rw [wk_eq]; exact (by decide +kernel : ¬ (axB.data.toList == ax1B.data.toList) = true))]
  rfl
theorem wk_taken : takenS wkS [] ax1B = false := by
  unfold takenS hasK atS wkS
  simp only [wk_no]
  rfl
theorem wk_cp : cpK axB 1 = (ax1B, 0) := by
  have h1 : cpName axB 1 = ax1B := by decide +kernel
  unfold cpK
  rw [if_pos wk_kind, h1, if_pos (by decide +kernel)]
theorem wk_free : freeN (cpK axB) (takenS wkS []) 999 1 = (ax1B, true) := by
  unfold freeN
  rw [wk_cp]
  rw [if_pos ⟨rfl, wk_taken⟩]
theorem wk_plan : planS wkS [eB] = ([⟨7, 2, axB, ax1B⟩, ⟨1, 0, ax1B, eB⟩], 0) := by
  unfold planS
  rw [if_pos ⟨wk_check, wk_may⟩]
  unfold planF
  rw [wk_paths]
  simp only [List.foldl_cons, List.foldl_nil]
  unfold planStep
  rw [if_neg (by rw [wk_has]; decide), wk_step]
  simp only [wk_free]
  rfl
theorem wk_tiny : tinyS wkS = true := by decide +kernel
theorem wk_short : shortP [eB] = true := by decide +kernel
end Go.Proofs.YtjllbkeobibnkaaDoor.Q

namespace Go.Proofs.YtjllbkeobibnkaaDoor.Q
open Go Go.Proofs Go.Shelf Go.RowKit Go.Lib Go.Sort Go.Proofs.YtjllbkeobibnkaaDoorP Go.Proofs.YtjllbkeobibnkaaDoorK Go.Proofs.YtjllbkeobibnkaaDoorW.PrintWords Go.Proofs.YtjllbkeobibnkaaDoorW.PrintLast Go.Proofs.YtjllbkeobibnkaaDoorW.PrintMore
set_option linter.unusedSimpArgs false
set_option linter.unusedVariables false
attribute [local go_sem] A51_size A51_0 A51_1 A51_g0 A51_g1 A58_size A58_0 A58_1 A58_2 A58_g0 A58_g1 A58_g2 cell_held frozen_held
attribute [local go_sem] zero51 zero58 zero65 set58 laid58 A33 z33 eB
attribute [local go_sem ↓ high] lvx_of
attribute [local go_sem] lv_sc lv24 lv33
attribute [local go_sem ↓ high] lv51 lv51s lv58 lv58a lv65 lv65a lv65l lv65r sc51 sc58 sc65 sc65a sc65l sc65r sc58a
set_option maxRecDepth 100000 in
set_option maxHeartbeats 4000000 in
theorem plan_any (w : World) (s : S24) (v : Array Value) (A0 : Option Addr) (c0 : Nat) (inn : List ByteArray) (hs : SideIn w s v) (ht : tinyS s = true) (hi : Kd.C Kd.string w A0 inn.length inn) (hic : inn.length ≤ c0) (hsh : shortP inn = true) :
    Calls Tryd.prog 18 #[.agg v, .slice A0 inn.length c0] w fun e w' => ∃ v, e = .returned (.tuple #[v, .int .i64 (planS s inn).2]) ∧ k33.R 33 w' w.heap.size (fun _ => True) v (planS s inn).1 ∧ Below w.heap.size w w' := by
  have eg : ∀ args w, (callFunc 45 args).run Tryd.prog w = .ok (.enter 45 args) w := enters_of Tryd.func45 (by kernel_rfl) rfl
  have hin := (shortP_mem hsh).1
  have HK := Aside0.mk (fun W (hb : Below w.heap.size w W) => Check_any W s v (hs.below hb) (tinyS_ok ht))
  have HM := Aside0.mk (fun W (hb : Below w.heap.size w W) => may_any W A0 c0 inn (Kd.C_below hi hb) hic hsh)
  have HP := Aside0.mk (fun W (hb : Below w.heap.size w W) => paths_any W s v (hs.below hb) ht)
  have HH := Aside0.mk (fun W p (hb : Below w.heap.size w W) hp => Has_any W A0 c0 inn p (Kd.C_below hi hb) hin hp)
  have HA := Aside0.mk (fun W p (hb : Below w.heap.size w W) => at_any W s v p (hs.below hb) (okS_short (tinyS_ok ht)))
  have HF := Aside0.mk (fun W p b b2 A cc ch (hb : Below w.heap.size w W) h h2 hC hl hp => free_any W p 45 #[.pointer (some ⟨b, 0, none⟩), .pointer (some ⟨b2, 0, none⟩)] eg (cpK p) (takenS s ch) (plan1_any W s v b b2 A cc ch (hs.below hb) (tinyS_ok ht) h h2 hC hl) (pcopy_any p hp))
  have hpl := paths_len ht
  have HPZ := Aside0.mk (paths_sz ht)
  have h02 := checkS_two s
  obtain ⟨R, hR⟩ : ∃ R, planF s inn = R := ⟨_, rfl⟩
  unfold planS
  rw [hR]
  unfold planF at hR
  obtain ⟨A, c, B, d, C, e, rfl, l1, l2, l3, h1, h2, h3⟩ := hs.out
  clear hs ht l1 l2 l3 h1 h2 h3 eg hi hsh
  generalize s.f0.length = n0 at *
  generalize s.f1.length = n1 at *
  generalize s.f2.length = n2 at *
  generalize pathsS s = l at *
  generalize checkS s = k at *
  generalize mayS inn = my at *
  have HR0 := Aside0.mk hR
  clear hR
  rcases h02 with rfl | rfl
  rotate_left
  · rw [if_neg (fun h => absurd h.1 (by decide))]
    go_enter Tryd.func18, Tryd.ntmps18
    go_wp2_with fail
    refine (HK.out _ (bel _ _)).mono ?_
    rintro r1 w1 ⟨rfl, hb⟩
    have p1 := prev_call hb
    clear hb
    go_wp2_with fail
    go_ret2
    exact ⟨_, rfl, Kd.R_nil _ _ _ _ _, bel _ _⟩
  cases my with
  | false =>
    rw [if_neg (fun h => absurd h.2 (by decide))]
    go_enter Tryd.func18, Tryd.ntmps18
    go_wp2_with fail
    refine (HK.out _ (bel _ _)).mono ?_
    rintro r1 w1 ⟨rfl, hb⟩
    have p1 := prev_call hb
    clear hb
    go_wp2_with fail
    refine (HM.out _ (bel _ _)).mono ?_
    rintro r2 w2 ⟨rfl, hb⟩
    have p2 := prev_call hb
    clear hb
    go_wp2_with fail
    go_ret2
    exact ⟨_, rfl, Kd.R_nil _ _ _ _ _, bel _ _⟩
  | true =>
    rw [if_pos ⟨rfl, rfl⟩]
    go_enter Tryd.func18, Tryd.ntmps18
    go_wp2_with fail
    refine (HK.out _ (bel _ _)).mono ?_
    rintro r1 w1 ⟨rfl, hb⟩
    have p1 := prev_call hb
    clear hb
    go_wp2_with fail
    refine (HM.out _ (bel _ _)).mono ?_
    rintro r2 w2 ⟨rfl, hb⟩
    have p2 := prev_call hb
    clear hb
    go_wp2_with fail
    refine (HP.out _ (bel _ _)).mono ?_
    rintro r3 w3 ⟨v3, rfl, hv, hb⟩
    have p3 := prev_call hb
    have s2 := siz w w2
    obtain ⟨A3, c3, rfl⟩ := Kd.R_slice hv
    have hv := Kd.R_lower hv (Nat.le_refl _)
    have HV3 := Aside0.mk hv
    clear hb hv
    go_wp2_with fail
    have hnb : ∀ ad, A3 = some ad → 0 < l.length → ad.block ≠ w2.heap.size := by
      rintro ad rfl h0 e
      have := Kd.R_base hv ad.block (by simp [Value.ownBlock])
      rw [World.size_alloc] at this
      omega
    have HNB := Aside0.mk hnb
    have s3 : w2.heap.size < w3.heap.size := held_lt (W := w3) (g := w2.heap.size)
    clear hv hnb
    go_loopw [6, 24] (fun u i wr => ∃ (j : Nat) (out : List S33) (ch : List ByteArray) (Ac : Option Addr) (cc : Nat), j ≤ l.length ∧ i = .int .i64 (j : Int) ∧ Aside0 ((l.drop j).foldl (planStep s inn) (out, ch) = R) ∧ out.length ≤ 2 * j ∧ ch.length ≤ j ∧ Aside0 (k33.R 33 wr w3.heap.size (fun _ => True) u out) ∧ Aside0 (Go.Proofs.YtjllbkeobibnkaaDoorK.Holds wr w2.heap.size (.cells #[.slice Ac ch.length cc] 41)) ∧ Aside0 (Go.Proofs.YtjllbkeobibnkaaDoorK.Holds wr w.heap.size (.cells #[.slice A n0 c, .slice B n1 d, .slice C n2 e] 24)) ∧ Aside0 (Kd.string.R 9 wr w3.heap.size (fun _ => True) (.slice Ac ch.length cc) ch) ∧ Aside0 (Below w.heap.size w wr) ∧ Aside0 (Go.Proofs.YtjllbkeobibnkaaDoorK.Kp w3.heap.size w2.heap.size w3 wr)) (fun _ i _ => l.length - (intOf i).toNat)
    case atStart => exact ⟨0, [], [], none, 0, Nat.zero_le _, rfl, HR0, Nat.le_refl _, Nat.le_refl _, ⟨Kd.R_nil _ _ _ _ _⟩, ⟨inferInstance⟩, ⟨inferInstance⟩, ⟨Kd.R_nil _ _ _ _ _⟩, ⟨bel _ _⟩, ⟨inferInstance⟩⟩
    case round =>
      obtain ⟨j, out, ch, Ac, cc, hj, rfl, HI, hol, hcl, HO, HG, HX, HC, HB, HKP⟩ := hrel
      have bw : Bel w.heap.size w wr := ⟨fun _ => HB.out⟩
      have kp := HKP.out
      have hg := HG.out
      have hx := HX.out
      clear HR0
      by_cases hlt : j < l.length
      · obtain ⟨ad, e0, x0⟩ := C_str' (Kd.R_reads' HV3.out).2.2 j hlt
        subst e0
        have hnb := HNB.out ad rfl (by omega)
        replace x0 := kp.cell rfl x0 (by rw [show (ad.add j).block = ad.block by unfold Addr.add; split <;> rfl]; exact hnb)
        have hI := HI.out
        rw [List.drop_eq_getElem_cons hlt, List.foldl_cons] at hI
        have hps := HPZ.out _ (List.getElem_mem hlt)
        generalize l[j] = p at x0 hI hps
        have HHP := Aside0.mk (fun W hb => HH.out W p hb (by omega))
        have HPS := Aside0.mk hps
        have HII := Aside0.mk hI
        clear hI HI hps
        cases hb : hasS inn p with
        | false =>
          have hI := HII.out
          unfold planStep at hI
          rw [if_pos hb] at hI
          have HIN : Aside0 ((l.drop (j + 1)).foldl (planStep s inn) (out, ch) = R) := ⟨hI⟩
          rw [hb] at HHP
          clear hI hb
          go_wp2_with fail
          refine (HHP.out _ (bel _ _)).mono ?_
          rintro r4 w4 ⟨rfl, hb⟩
          have p4 := prev_call hb
          clear hb
          go_wp2_with fail
          go_roundw
          case rel => exact ⟨j + 1, out, ch, Ac, cc, by omega, by go_num, HIN, by omega, by omega, ⟨rowB HO.out (bel wr _)⟩, ⟨inferInstance⟩, ⟨inferInstance⟩, ⟨rowB HC.out (bel wr _)⟩, ⟨bel _ _⟩, ⟨inferInstance⟩⟩
          case measure => simp [intOf]; omega
        | true =>
          have hI := HII.out
          unfold planStep at hI
          rw [if_neg (by rw [hb]; decide)] at hI
          dsimp only at hI
          have HIP := Aside0.mk hI
          rw [hb] at HHP
          have hz := stepS_zero (atS s p) p
          have HAP := Aside0.mk (fun W hb => HA.out W p hb)
          have HST := Aside0.mk (fun W => step_any W (atS s p) p)
          generalize stepS (atS s p) p = x at HST HIP hz
          generalize atS s p = y at HAP HST
          have HZ := Aside0.mk hz
          clear hI hb hz HII
          go_wp2_with fail
          refine (HHP.out _ (bel _ _)).mono ?_
          rintro r4 w4 ⟨rfl, hb⟩
          have p4 := prev_call hb
          clear hb
          go_wp2_with fail
          refine (HAP.out _ (bel _ _)).mono ?_
          rintro r5 w5 ⟨rfl, hb⟩
          have p5 := prev_call hb
          clear hb
          go_wp2_with fail
          refine (HST.out _).mono ?_
          rintro r6 w6 ⟨rfl, hb⟩
          have p6 := prev_call hb
          have s6 : w3.heap.size ≤ w6.heap.size := ((inferInstance : Go.Proofs.YtjllbkeobibnkaaDoorK.Kp w3.heap.size w2.heap.size w3 w6).out (Nat.le_refl _)).1
          have s7 := siz w w3
          have s8 := siz wr w6
          clear hb
          have a1 : Apart w.heap.size (.row w6.heap.size) := apart_ne (by omega)
          have a2 : Apart w2.heap.size (.row w6.heap.size) := apart_ne (by omega)
          have a3 : OwnB w.heap.size (.row w6.heap.size) := own_row (by omega)
          have a4 : OwnB wr.heap.size (.row w6.heap.size) := own_row (by omega)
          have a5 : OwnB w3.heap.size (.row w6.heap.size) := own_row (by omega)
          have s9 : w3.heap.size ≤ wr.heap.size := (kp.out (Nat.le_refl _)).1
          have s10 : w.heap.size < w2.heap.size := held_lt (W := w2) (g := w.heap.size)
          have a6 : Apart w.heap.size (.row w2.heap.size) := apart_ne (by omega)
          have a8 : Apart w6.heap.size (.row w2.heap.size) := apart_ne (by omega)
          have a7 : OwnB w.heap.size (.row w2.heap.size) := own_row (by omega)
          have z9 : Go.Proofs.YtjllbkeobibnkaaDoorK.Size w3.heap.size wr := ⟨s9⟩
          obtain ⟨Ao, co, ho⟩ := Kd.R_slice HO.out
          subst ho
          by_cases h7 : x.f0 = 7
          · have hI := HIP.out
            rw [if_pos h7] at hI
            have HI7 := Aside0.mk hI
            have h7b : (x.f0 != 7) = false := by rw [h7]; rfl
            have HFP := Aside0.mk (fun W b b2 A cc hb h h2 hC => HF.out W p b b2 A cc ch hb h h2 hC (by omega) HPS.out)
            generalize freeN (cpK p) (takenS s ch) 999 1 = q at HFP HI7
            obtain ⟨tq, ok⟩ := q
            dsimp only at HFP HI7
            clear hI HIP h7
            go_wp2_with fail
            refine (HFP.out _ _ _ _ _ (bel _ _) held held (Kd.R_reads' (rowX HC.out)).2.2).mono ?_
            rintro r7 w7 ⟨rfl, hb⟩
            have p7 := prev_call hb
            clear hb
            cases ok with
            | false =>
              have hI := HI7.out
              rw [if_neg (by decide)] at hI
              have HIN : Aside0 ((l.drop (j + 1)).foldl (planStep s inn) (out ++ [⟨8, x.f1, p, eB⟩], ch) = R) := ⟨hI⟩
              clear hI HI7
              go_wp2_with ((with_reducible refine gate_builtin (b := .append) (xs := #[.tmp 55, .tmp 60]) rfl ?_); at_builtin; refine put33 w3.heap.size rfl (.tmp 55) (.tmp 60) rfl (.slice Ao out.length co) out ⟨8, x.f1, p, eB⟩ rfl ?aX ?aO ?aS ?aL ?_; (case aX => first | rfl | (simp only [World.size_setCell, size_setRow, World.size_alloc]; rfl)); (case aO => exact rowX HO.out); (case aS => exact (inferInstance : Go.Proofs.YtjllbkeobibnkaaDoorK.Size w3.heap.size _).out); (case aL => omega); intro v8 w8 h8 hg8 hat8; have p8 := prev_grown hg8; have n8a := noRow_g (L := 9 :: Kd.string.E) hg8 (rowX HO.out) (by decide); have n8b := apart_g (g := w.heap.size) (t := 24) hg8 (rowX HO.out) (by decide); have n8c := apart_g (g := w2.heap.size) (t := 41) hg8 (rowX HO.out) (by decide); have n8d := ownB_g hg8 (rowX HO.out) (Nat.le_refl w3.heap.size); have n8e := ownB_g (b := w.heap.size) hg8 (rowX HO.out) (by omega); have HV8 := Aside0.mk h8; clear h8 hg8 hat8)
              go_roundw
              case rel => exact ⟨j + 1, _, ch, Ac, cc, by omega, by go_num, HIN, by simp only [List.length_append, List.length_singleton]; omega, by omega, HV8, ⟨inferInstance⟩, ⟨inferInstance⟩, ⟨rowX HC.out⟩, ⟨bel _ _⟩, ⟨inferInstance⟩⟩
              case measure => simp [intOf]; omega
            | true =>
              have hI := HI7.out
              rw [if_pos rfl] at hI
              have HIN : Aside0 ((l.drop (j + 1)).foldl (planStep s inn) (out ++ [⟨x.f0, x.f1, x.f2, tq⟩, ⟨1, 0, tq, eB⟩], ch ++ [tq]) = R) := ⟨hI⟩
              clear hI HI7
              go_wp2_with (first
                | ((with_reducible refine gate_builtin (b := .append) (xs := #[.tmp 62, .tmp 64]) rfl ?_); at_builtin; refine put41 w3.heap.size rfl (.tmp 62) (.tmp 64) rfl (.slice Ac ch.length cc) ch tq rfl ?aX ?aO ?aS ?aL ?_; (case aX => first | rfl | (simp only [World.size_setCell, size_setRow, World.size_alloc]; rfl)); (case aO => exact rowX HC.out); (case aS => exact (inferInstance : Go.Proofs.YtjllbkeobibnkaaDoorK.Size w3.heap.size _).out); (case aL => omega); intro v8 w8 h8 hg8 hat8; have p8 := prev_grown hg8; have n8a := noRow_g (L := 33 :: k33.E) hg8 (rowX HC.out) (by decide); have n8b := apart_g (g := w.heap.size) (t := 24) hg8 (rowX HC.out) (by decide); have n8c := apart_g (g := w2.heap.size) (t := 41) hg8 (rowX HC.out) (by decide); have n8f := apart_g (g := w6.heap.size) (t := 33) hg8 (rowX HC.out) (by decide); have n8d := ownB_g hg8 (rowX HC.out) (Nat.le_refl w3.heap.size); have n8e := ownB_g (b := w.heap.size) hg8 (rowX HC.out) (by omega); have n8g := ownB_g (b := w2.heap.size) hg8 (rowX HC.out) (by omega); obtain ⟨A8, c8, e8⟩ := Kd.R_slice h8; subst e8; have HV8 := Aside0.mk h8; clear h8 hg8 hat8)
                | ((with_reducible refine gate_builtin (b := .append) (xs := #[.tmp 68, .tmp 72]) rfl ?_); at_builtin; refine put33two w3.heap.size rfl (.tmp 68) (.tmp 72) rfl (.slice Ao out.length co) out ⟨x.f0, x.f1, x.f2, tq⟩ ⟨1, 0, tq, eB⟩ rfl ?aX ?aO ?aS ?aL ?_; (case aX => first | rfl | (simp only [World.size_setCell, size_setRow, World.size_alloc]; rfl)); (case aO => exact rowX HO.out); (case aS => exact (inferInstance : Go.Proofs.YtjllbkeobibnkaaDoorK.Size w3.heap.size _).out); (case aL => omega); intro v9 w9 h9 hg9 hat9; have p9 := prev_grown hg9; have n9a := noRow_g (L := 9 :: Kd.string.E) hg9 (rowX HO.out) (by decide); have n9b := apart_g (g := w.heap.size) (t := 24) hg9 (rowX HO.out) (by decide); have n9c := apart_g (g := w2.heap.size) (t := 41) hg9 (rowX HO.out) (by decide); have n9d := ownB_g hg9 (rowX HO.out) (Nat.le_refl w3.heap.size); have n9e := ownB_g (b := w.heap.size) hg9 (rowX HO.out) (by omega); have HV9 := Aside0.mk h9; clear h9 hg9 hat9))
              have hq : (ch ++ [tq]).length = ch.length + 1 := by simp
              go_roundw
              case rel => exact ⟨j + 1, _, ch ++ [tq], A8, c8, by omega, by go_num, HIN, by simp only [List.length_append, List.length_cons, List.length_nil]; omega, by omega, HV9, ⟨by rw [hq]; exact inferInstance⟩, ⟨inferInstance⟩, ⟨rowX HV8.out⟩, ⟨bel _ _⟩, ⟨inferInstance⟩⟩
              case measure => simp [intOf]; omega
          · have hI := HIP.out
            rw [if_neg h7] at hI
            have HI7 := Aside0.mk hI
            have h7b : (x.f0 != 7) = true := bne_iff_ne.mpr h7
            clear hI HIP h7
            by_cases h0 : x.f0 = 0
            · have hI := HI7.out
              rw [if_pos h0] at hI
              have HIN : Aside0 ((l.drop (j + 1)).foldl (planStep s inn) (out, ch) = R) := ⟨hI⟩
              have hx := HZ.out h0
              subst hx
              clear hI HI7 h0 h7b
              go_wp2_with fail
              go_roundw
              case rel => exact ⟨j + 1, out, ch, Ac, cc, by omega, by go_num, HIN, by omega, by omega, ⟨rowX HO.out⟩, ⟨inferInstance⟩, ⟨inferInstance⟩, ⟨rowX HC.out⟩, ⟨bel _ _⟩, ⟨inferInstance⟩⟩
              case measure => simp [intOf]; omega
            · have hI := HI7.out
              rw [if_neg h0] at hI
              have HIN : Aside0 ((l.drop (j + 1)).foldl (planStep s inn) (out ++ [x], ch) = R) := ⟨hI⟩
              have h0b : (x.f0 != 0) = true := bne_iff_ne.mpr h0
              have h0c : (x.f0 == 0) = false := beq_eq_false_iff_ne.mpr h0
              clear hI HI7 h0
              go_wp2_with ((with_reducible refine gate_builtin (b := .append) (xs := #[.tmp 43, .tmp 45]) rfl ?_); at_builtin; refine put33 w3.heap.size rfl (.tmp 43) (.tmp 45) rfl (.slice Ao out.length co) out x rfl ?aX ?aO ?aS ?aL ?_; (case aX => first | rfl | (simp only [World.size_setCell, size_setRow, World.size_alloc]; rfl)); (case aO => exact rowX HO.out); (case aS => exact (inferInstance : Go.Proofs.YtjllbkeobibnkaaDoorK.Size w3.heap.size _).out); (case aL => omega); intro v8 w8 h8 hg8 hat8; have p8 := prev_grown hg8; have n8a := noRow_g (L := 9 :: Kd.string.E) hg8 (rowX HO.out) (by decide); have n8b := apart_g (g := w.heap.size) (t := 24) hg8 (rowX HO.out) (by decide); have n8c := apart_g (g := w2.heap.size) (t := 41) hg8 (rowX HO.out) (by decide); have n8d := ownB_g hg8 (rowX HO.out) (Nat.le_refl w3.heap.size); have n8e := ownB_g (b := w.heap.size) hg8 (rowX HO.out) (by omega); have HV8 := Aside0.mk h8; clear h8 hg8 hat8)
              go_roundw
              case rel => exact ⟨j + 1, _, ch, Ac, cc, by omega, by go_num, HIN, by simp only [List.length_append, List.length_singleton]; omega, by omega, HV8, ⟨inferInstance⟩, ⟨inferInstance⟩, ⟨rowX HC.out⟩, ⟨bel _ _⟩, ⟨inferInstance⟩⟩
              case measure => simp [intOf]; omega
      · have hI := HI.out
        rw [List.drop_of_length_le (by omega)] at hI
        simp only [List.foldl_nil] at hI
        have HIE := Aside0.mk hI
        clear hI HI
        go_wp2_with fail
        go_ret2
        exact ⟨_, rfl, Kd.R_lower (by rw [← HIE.out]; exact HO.out) (siz w w3), bel _ _⟩
end Go.Proofs.YtjllbkeobibnkaaDoor.Q

namespace Go.Proofs.YtjllbkeobibnkaaDoor.Q
open Go Go.Proofs Go.Shelf Go.RowKit Go.Lib Go.Sort Go.Proofs.YtjllbkeobibnkaaDoorP Go.Proofs.YtjllbkeobibnkaaDoorK Go.Proofs.YtjllbkeobibnkaaDoorW.PrintWords Go.Proofs.YtjllbkeobibnkaaDoorW.PrintLast Go.Proofs.YtjllbkeobibnkaaDoorW.PrintMore
set_option linter.unusedSimpArgs false
set_option linter.unusedVariables false
theorem one58 {W : World} (p : S58) (cs : Array Value) (hcs : cs = A58 p) : k58.C (W.alloc (.cells cs 58)) (some ⟨W.heap.size, 0, none⟩) 1 [p] := by
  subst hcs
  refine ⟨rfl, by decide, fun _ => ⟨_, rfl, fun j x hj => ?_⟩⟩
  have hb := blk_new W (.cells (A58 p) 58)
  obtain rfl : j = 0 := by
    have := (List.getElem?_eq_some_iff.1 hj).1
    simp at this
    omega
  obtain rfl : p = x := by simpa using hj
  refine ⟨L58 p, L58_len p, rfl, fun i u hi => ?_⟩
  rw [Nat.zero_mul, Nat.zero_add, Addr.add_lit, Nat.zero_add, blk_cell hb]
  unfold A58
  simpa using hi
set_option maxRecDepth 100000 in
set_option maxHeartbeats 4000000 in
theorem works1_any (w : World) (v : Int) (b : UInt8) : Calls Tryd.prog 33 #[.int .i64 v, .int .u8 (b.toNat : Int)] w fun e w' => ∃ ad, e = .returned (.slice (some ad) 1 1) ∧ k58.C w' (some ad) 1 [⟨axB, ⟨v, 0, sumB b⟩⟩] ∧ Below w.heap.size w w' := by
  go_enter Tryd.func33, Tryd.ntmps33
  go_wp2_with fail
  go_ret
  exact ⟨_, rfl, one58 _ _ rfl, bel _ _⟩
end Go.Proofs.YtjllbkeobibnkaaDoor.Q

namespace Go.Proofs.YtjllbkeobibnkaaDoor.Q
open Go Go.Proofs Go.Shelf Go.RowKit Go.Lib Go.Sort Go.Proofs.YtjllbkeobibnkaaDoorP Go.Proofs.YtjllbkeobibnkaaDoorK Go.Proofs.YtjllbkeobibnkaaDoorW.PrintWords Go.Proofs.YtjllbkeobibnkaaDoorW.PrintLast Go.Proofs.YtjllbkeobibnkaaDoorW.PrintMore
set_option linter.unusedSimpArgs false
set_option linter.unusedVariables false
theorem str1 {W : World} {g : Nat} {p : ByteArray} (h : W.heap[g]? = some (.cells #[.string p] 9 (0, 0))) : Kd.string.C W (some ⟨g, 0, none⟩) 1 [p] := by
  refine ⟨rfl, by decide, fun _ => ⟨_, rfl, fun j x hj => ?_⟩⟩
  obtain rfl : j = 0 := by
    have := (List.getElem?_eq_some_iff.1 hj).1
    simp at this
    omega
  obtain rfl : p = x := by simpa using hj
  refine ⟨[.string p], rfl, rfl, fun i u hi => ?_⟩
  rw [Nat.zero_mul, Nat.zero_add, Addr.add_lit, Nat.zero_add, blk_cell h]
  cases i with
  | zero => exact hi
  | succ i => simp at hi
theorem wk_side {W : World} {d1 d2 d3 : Addr} (h1 : k58.C W (some d1) 1 [⟨axB, ⟨1, 0, sumB 1⟩⟩]) (h2 : k58.C W (some d2) 1 [⟨axB, ⟨0, 0, sumB 2⟩⟩]) (h3 : k58.C W (some d3) 1 [⟨axB, ⟨2, 0, sumB 3⟩⟩]) : SideIn W wkS #[.slice (some d1) 1 1, .slice (some d2) 1 1, .slice (some d3) 1 1] :=
  ⟨⟨_, _, _, _, _, _, rfl, Nat.le_refl _, Nat.le_refl _, Nat.le_refl _, h1, h2, h3⟩⟩
attribute [local go_sem] cell_held frozen_held
set_option maxRecDepth 100000 in
set_option maxHeartbeats 4000000 in
theorem works_any (w : World) : Calls Tryd.prog 13 #[] w fun e w' => e = .returned (.bool true) ∧ Below w.heap.size w w' := by
  have eg : ∀ args w, (callFunc 33 args).run Tryd.prog w = .ok (.enter 33 args) w := enters_of Tryd.func33 (by kernel_rfl) rfl
  have HW := Aside0.mk (fun W v b => works1_any W v b)
  have HP := Aside0.mk (fun W d1 d2 d3 g (h1 : k58.C W (some d1) 1 [⟨axB, ⟨1, 0, sumB 1⟩⟩]) (h2 : k58.C W (some d2) 1 [⟨axB, ⟨0, 0, sumB 2⟩⟩]) (h3 : k58.C W (some d3) 1 [⟨axB, ⟨2, 0, sumB 3⟩⟩]) (h4 : Kd.string.C W (some ⟨g, 0, none⟩) 1 [eB]) => plan_any W wkS _ (some ⟨g, 0, none⟩) 1 [eB] (wk_side h1 h2 h3) wk_tiny h4 (Nat.le_refl _) wk_short)
  rw [wk_plan] at HP
  go_enter Tryd.func13, Tryd.ntmps13
  go_wp2_with fail
  refine (HW.out _ 1 1).mono ?_
  rintro e1 w1 ⟨d1, rfl, hc, hb⟩
  have p1 := prev_call hb
  have HC1 := Aside0.mk hc
  clear hb hc
  go_wp2_with fail
  refine (HW.out _ 0 2).mono ?_
  rintro e2 w2 ⟨d2, rfl, hc, hb⟩
  have p2 := prev_call hb
  have HC2 := Aside0.mk hc
  clear hb hc
  go_wp2_with fail
  refine (HW.out _ 2 3).mono ?_
  rintro e3 w3 ⟨d3, rfl, hc, hb⟩
  have p3 := prev_call hb
  have HC3 := Aside0.mk hc
  clear hb hc
  go_wp2_with fail
  refine (HP.out _ _ _ _ _ (Kd.C_below HC1.out (bel _ _)) (Kd.C_below HC2.out (bel _ _)) (Kd.C_below HC3.out (bel _ _)) (str1 held)).mono ?_
  rintro e4 w4 ⟨v, rfl, hv, hb⟩
  have p4 := prev_call hb
  obtain ⟨X, cx, rfl⟩ := Kd.R_slice hv
  have hr := (Kd.R_reads' hv).2.2
  obtain ⟨ad, ea, x0⟩ := C33_at hr 0 (by decide)
  obtain ⟨ad2, eb, x1⟩ := C33_at hr 1 (by decide)
  obtain rfl : ad = ad2 := Option.some.inj (ea.symm.trans eb)
  subst ea
  rw [Nat.zero_mul, add_zero_] at x0
  rw [Addr.add_succ' ad 3] at x1
  obtain ⟨a0, a1, a2, a3⟩ := at33 x0
  obtain ⟨b0, b1, b2, b3⟩ := at33 x1
  simp only [List.getElem_cons_zero, List.getElem_cons_succ] at a0 a1 a2 a3 b0 b1 b2 b3
  simp only [axB, ax1B, eB] at a2 a3 b2 b3
  clear hb hv hr eb x0 x1
  go_wp2_with fail
  go_ret
  exact ⟨rfl, bel _ _⟩
end Go.Proofs.YtjllbkeobibnkaaDoor.Q

namespace Go.Proofs.YtjllbkeobibnkaaDoor.Q
open Go Go.Proofs Go.Shelf Go.RowKit Go.Lib Go.Sort Go.Proofs.YtjllbkeobibnkaaDoorP Go.Proofs.YtjllbkeobibnkaaDoorK Go.Proofs.YtjllbkeobibnkaaDoorW.PrintWords Go.Proofs.YtjllbkeobibnkaaDoorW.PrintLast Go.Proofs.YtjllbkeobibnkaaDoorW.PrintMore
set_option linter.unusedSimpArgs false
set_option linter.unusedVariables false
theorem cutB_size (p : ByteArray) : (cutB p).size ≤ 110 := by
  unfold cutB mn
  rw [ByteArray.size_extract]
  split <;> omega
theorem fewL_few (l : List S58) : fewK (fewL l) = true := by
  unfold fewK fewL
  rw [List.length_map, List.length_take, decide_eq_true (by omega : min 20 l.length ≤ 1000), Bool.true_and, List.all_eq_true]
  intro k hk
  obtain ⟨x, _, rfl⟩ := List.mem_map.1 hk
  have := cutB_size x.f0
  exact decide_eq_true (by show (cutB x.f0).size ≤ 32000; omega)
theorem fewS_tiny (s : S24) : tinyS (fewS s) = true := by
  unfold tinyS fewS
  rw [fewL_few, fewL_few, fewL_few]
  rfl
attribute [local go_sem] min2_mnF min_two cell_held frozen_held
attribute [local go_sem ↓ high] lvx_of
attribute [local go_sem] lv_sc lv24 lv33
--REGWORDS tells1
--END
end Go.Proofs.YtjllbkeobibnkaaDoor.Q

namespace Go.Proofs.YtjllbkeobibnkaaDoor.Q
open Go.RowKit Go.Proofs.YtjllbkeobibnkaaDoorW.PrintWords Go.Proofs.YtjllbkeobibnkaaDoorW.PrintLast Go.Proofs.YtjllbkeobibnkaaDoorW.PrintMore Go.Proofs.YtjllbkeobibnkaaDoorK
attribute [local go_sem] max2_int min2_int max_two min_two max_three min_three max_four min_four   -- for this text's walks alone
attribute [local go_sem ↓] Go.Proofs.YtjllbkeobibnkaaDoorK.isSome_setCell
set_option linter.unusedVariables false
set_option linter.unusedSimpArgs false

def aquiferlaw28_scoped.l0 : Nat → List ByteArray → List ByteArray → Int → Option (List ByteArray)
  | 0, _, _, _ => none
  | k + 1, x0, x3, x4 => if x4 < (x0.length : Int) then (if x4 < 10 then (if 0 ≤ x4 then (if 0 ≤ (mn ((rdOf ByteArray.empty x0 x4).size : Int) 110) then (if (mn ((rdOf ByteArray.empty x0 x4).size : Int) 110) ≤ ((rdOf ByteArray.empty x0 x4).size : Int) then (if x3.length < 8796093022208 then (aquiferlaw28_scoped.l0 k x0 (x3 ++ [(rdOf ByteArray.empty x0 x4).extract 0 ((mn ((rdOf ByteArray.empty x0 x4).size : Int) 110) : Int).toNat]) (wrap64 (x4 + 1))) else (none)) else (none)) else (none)) else (none)) else (some x3)) else (some x3)
def aquiferlaw28_scoped.f (k : Nat) (l0 : List ByteArray) : Option (List ByteArray) := aquiferlaw28_scoped.l0 k l0 ([] : List ByteArray) 0
def aquiferlaw28_scoped.T5 : Bool × List (List Nat × List Nat) := (true, [([], []), ([], []), ([], []), ([1, 2], [1, 2]), ([3], [3]), ([], []), ([], []), ([5, 6], [5, 6]), ([7], [7]), ([8], [8]), ([9], [9]), ([4, 10], [4, 10]), ([11], [11]), ([0, 12], [0, 12]), ([13, 13, 0, 1, 2, 3, 4, 5, 6, 7, 8, 9, 10, 11, 12, 13], [0, 13])])
def aquiferlaw28_scoped.B5 : List Nat := [0, 0, 0, 6, 14, 0, 0, 96, 224, 480, 992, 2046, 4094, 8191, 16383]
theorem aquiferlaw28_scoped.tab5 : rtab .any (opsOf Tryd.f17 5) = aquiferlaw28_scoped.T5 := by kernel_rfl
theorem aquiferlaw28_scoped.bits5 : waitsOk aquiferlaw28_scoped.T5.2 aquiferlaw28_scoped.B5 = true := by kernel_rfl
set_option maxHeartbeats 8000000 in
set_option maxRecDepth 100000 in
theorem aquiferlaw28_scoped.calls (k : Nat) (A0 : Option Addr) (c0 : Nat) (l0 : List ByteArray) (r : List ByteArray) (w : World) (hr0 : Kd.C Kd.string w A0 l0.length l0) (hc0 : l0.length ≤ c0) (h : aquiferlaw28_scoped.f k l0 = some r) :
    Calls Tryd.prog 17 #[.slice A0 l0.length c0] w fun e w' => ∃ v0_ : Value, e = .returned (v0_) ∧ Kd.R Kd.string 9 w' w.heap.size (fun _ => True) v0_ r ∧ Below w.heap.size w w' := by
  have HR0 := Aside0.mk hr0
  have HC0 := Aside0.mk hc0
  clear hr0 hc0
  have HB := Aside0.mk (Below.refl w.heap.size w)
  have H : (aquiferlaw28_scoped.l0 k l0 ([] : List ByteArray) 0) = some r := h
  clear h
  have H' := Aside0.mk H
  clear H
  go_enter Tryd.func17, Tryd.ntmps17
  go_wp2
  go_loopg [3, 4] k (fun kq v3 v4 w' => ∃ (x3_1 : List ByteArray) (x4_1 : Int), v4 = .int .i64 x4_1 ∧ Aside0 (aquiferlaw28_scoped.l0 kq l0 x3_1 x4_1 = some r) ∧ Aside0 (kq ≤ k) ∧ Aside0 (Kd.R Kd.string 9 w' w.heap.size (fun _ => True) v3 x3_1) ∧ Aside0 (Below w.heap.size w w'))
  case atStart => exact ⟨(([] : List ByteArray)), (0), (by first | rfl | (simp; done) | (simp [*]; done)), H', ⟨Nat.le_refl _⟩, ⟨by first | exact Kd.R_nil _ _ _ _ _ | exact Kd.N_nil _ _ _ _ _ | exact Kd.V_nil _ _ _ _ _ | exact Kd.Q_nil _ _ _ _ _ | exact Kd.S_nil _ _ _ _ _⟩, ⟨belU HB.out⟩⟩
  case round =>
    clear H'
    try clear c1
    obtain ⟨x3_1, x4_1, rfl, HA, HK1, HO_3, HB⟩ := hrel
    cases gk with
    | zero => exact absurd HA.out (by simp [aquiferlaw28_scoped.l0])
    | succ k1 =>
      have H := HA.out
      clear HA
      simp only [aquiferlaw28_scoped.l0] at H
      by_cases c2 : x4_1 < (l0.length : Int)
      · rw [if_pos c2] at H
        have c2b0 : decide (x4_1 < (l0.length : Int)) = true := decide_eq_true c2
        clear c2
        by_cases c3 : x4_1 < 10
        · rw [if_pos c3] at H
          have c3b0 : decide (x4_1 < 10) = true := decide_eq_true c3
          clear c3
          by_cases c4 : 0 ≤ x4_1
          · rw [if_pos c4] at H
            have c4b0 : decide (0 ≤ x4_1) = true := decide_eq_true c4
            clear c4
            obtain ⟨ji5, hji5⟩ : ∃ j_ : Int, (mn ((rdOf ByteArray.empty l0 x4_1).size : Int) 110) = j_ := ⟨_, rfl⟩
            replace H : (if 0 ≤ (ji5) then (if (ji5) ≤ ((rdOf ByteArray.empty l0 x4_1).size : Int) then (if x3_1.length < 8796093022208 then (aquiferlaw28_scoped.l0 k1 l0 (x3_1 ++ [(rdOf ByteArray.empty l0 x4_1).extract 0 ((ji5) : Int).toNat]) (wrap64 (x4_1 + 1))) else (none)) else (none)) else (none)) = some r := by first | (rw [hji5] at H; exact H) | (simp only [hji5] at H ⊢; exact H)
            have hji5_ : (if 110 < ((rdOf ByteArray.empty l0 x4_1).size : Int) then 110 else ((rdOf ByteArray.empty l0 x4_1).size : Int)) = ji5 := hji5
            by_cases c6 : 0 ≤ (ji5)
            · rw [if_pos c6] at H
              have c6b0 := eq_true c6
              have c6b1 : decide (0 ≤ (ji5)) = true := decide_eq_true c6
              clear c6
              by_cases c7 : (ji5) ≤ ((rdOf ByteArray.empty l0 x4_1).size : Int)
              · rw [if_pos c7] at H
                have c7b0 := eq_true c7
                have c7b1 : decide ((ji5) ≤ ((rdOf ByteArray.empty l0 x4_1).size : Int)) = true := decide_eq_true c7
                clear c7
                by_cases c8 : x3_1.length < 8796093022208
                · rw [if_pos c8] at H
                  have LMc8 := Aside0.mk c8
                  clear c8
                  obtain ⟨y157, hy157⟩ : ∃ y_ : List ByteArray, y_ = (x3_1 ++ [(rdOf ByteArray.empty l0 x4_1).extract 0 ((ji5) : Int).toNat]) := ⟨_, rfl⟩
                  replace H : (aquiferlaw28_scoped.l0 k1 l0 y157 (wrap64 (x4_1 + 1))) = some r := by first | (rw [hy157]; with_reducible exact H) | (have H2_ := (Option.bind_some _ _).symm.trans H; rw [hy157]; with_reducible exact H2_) | (have H2_ := (Option.bind_some _ _).symm.trans H; with_reducible exact H2_) | with_reducible exact H | (rw [hy157]; exact H) | exact H
                  have Ny157 := Aside0.mk hy157
                  clear hy157
                  have H' := Aside0.mk H
                  clear H
                  try go_wp2
                  have n0_ := Aside0.mk (Kd.R_drew HO_3.out)
                  have n1_ := Aside0.mk (below_drew1 HB.out)
                  clear HO_3
                  clear HB
                  have HO_3 := n0_
                  have HB := n1_
                  clear n0_ n1_
                  have p155 : 0 ≤ (x4_1 : Int) := of_decide_eq_true (by first | (with_reducible assumption) | assumption)
                  have q155 : x4_1 < (l0.length : Int) := of_decide_eq_true (by first | (with_reducible assumption) | assumption)
                  obtain ⟨ad155, e155, hx155_0⟩ := Kd.at_string HR0.out x4_1 p155 q155
                  have hw155_0 := hx155_0
                  cases e155
                  replace hx155_0 := (HB.out.cell (World.block_lt_of_cell? w _ hx155_0)).trans hx155_0
                  replace p155 := eq_true p155
                  replace q155 := eq_true q155
                  have p156 : 0 ≤ (x4_1 : Int) := of_decide_eq_true (by first | (with_reducible assumption) | assumption)
                  have q156 : x4_1 < (l0.length : Int) := of_decide_eq_true (by first | (with_reducible assumption) | assumption)
                  obtain ⟨ad156, e156, hx156_0⟩ := Kd.at_string HR0.out x4_1 p156 q156
                  have hw156_0 := hx156_0
                  obtain rfl : ad155 = ad156 := (by injection e156)
                  replace hx156_0 := (HB.out.cell (World.block_lt_of_cell? w _ hx156_0)).trans hx156_0
                  replace p156 := eq_true p156
                  replace q156 := eq_true q156
                  refine start_ (n := 15) (S := fun w' => w'.cell? (ad155.add (x4_1).toNat) = some (.string (rdOf ByteArray.empty l0 x4_1)) ∧ w'.cell? (ad155.add (x4_1).toNat) = some (.string (rdOf ByteArray.empty l0 x4_1))) (ds := []) #[false, false, false, false, false, false, false, false, false, false, false, false, false, false, false] (by kernel_rfl) rfl rfl ⟨((HB.out.cell (World.block_lt_of_cell? w _ hw155_0)).trans hw155_0), ((HB.out.cell (World.block_lt_of_cell? w _ hw156_0)).trans hw156_0)⟩ (fun hHeld => ?_); refine with_tabW aquiferlaw28_scoped.tab5 aquiferlaw28_scoped.bits5 (fun HT_ HW_ => ?_)
                  generalize wr.drew = w9 at HO_3 HB hx155_0 hx156_0 hHeld ⊢
                  refine pure_ (i := 0) (N := some 15) (v := ?_) (a' := ?_) #[true, false, false, false, false, false, false, false, false, false, false, false, false, false, false] rfl rfl (any_of HT_.out (by kernel_rfl)) (fun _ _ _ h => h) (Or.inl ⟨by rfl, ?_⟩) ?_ ?_
                  rotate_left
                  · intro w'
                    go_simp
                    with_reducible rfl
                  rotate_left
                  · simp only [Act.put, List.setIfInBounds_toArray, List.set_cons_zero, List.set_cons_succ, i64_w, i32_w]
                    rfl
                  refine pure_ (i := 1) (N := some 16) (v := ?_) (a' := ?_) #[true, true, false, false, false, false, false, false, false, false, false, false, false, false, false] rfl rfl (any_of HT_.out (by kernel_rfl)) (fun _ _ _ h => h) (Or.inl ⟨by rfl, ?_⟩) ?_ ?_
                  rotate_left
                  · intro w'
                    go_simp
                    with_reducible rfl
                  rotate_left
                  · simp only [Act.put, List.setIfInBounds_toArray, List.set_cons_zero, List.set_cons_succ, i64_w, i32_w]
                    rfl
                  refine pure_ (i := 2) (N := some 17) (v := ?_) (a' := ?_) #[true, true, true, false, false, false, false, false, false, false, false, false, false, false, false] rfl rfl (any_of HT_.out (by kernel_rfl)) (fun _ _ _ h => h) (Or.inl ⟨by rfl, ?_⟩) ?_ ?_
                  rotate_left
                  · intro w'
                    go_simp
                    with_reducible rfl
                  rotate_left
                  · simp only [Act.put, List.setIfInBounds_toArray, List.set_cons_zero, List.set_cons_succ, i64_w, i32_w]
                    rfl
                  refine pure_ (i := 3) (N := some 18) (v := ?_) (a' := ?_) #[true, true, true, true, false, false, false, false, false, false, false, false, false, false, false] rfl rfl (any_of HT_.out (by kernel_rfl)) (fun _ _ _ h => h) (Or.inl ⟨by rfl, ?_⟩) ?_ ?_
                  rotate_left
                  · intro w'
                    go_simp
                    with_reducible rfl
                  rotate_left
                  · simp only [Act.put, List.setIfInBounds_toArray, List.set_cons_zero, List.set_cons_succ, i64_w, i32_w]
                    rfl
                  refine pure_ (i := 5) (N := some 20) (v := ?_) (a' := ?_) #[true, true, true, true, false, true, false, false, false, false, false, false, false, false, false] rfl rfl (any_of HT_.out (by kernel_rfl)) (fun _ _ _ h => h) (Or.inl ⟨by rfl, ?_⟩) ?_ ?_
                  rotate_left
                  · intro w'
                    go_simp
                    with_reducible rfl
                  rotate_left
                  · simp only [Act.put, List.setIfInBounds_toArray, List.set_cons_zero, List.set_cons_succ, i64_w, i32_w]
                    rfl
                  refine pure_ (i := 6) (N := some 21) (v := ?_) (a' := ?_) #[true, true, true, true, false, true, true, false, false, false, false, false, false, false, false] rfl rfl (any_of HT_.out (by kernel_rfl)) (fun _ _ _ h => h) (Or.inl ⟨by rfl, ?_⟩) ?_ ?_
                  rotate_left
                  · intro w'
                    go_simp
                    with_reducible rfl
                  rotate_left
                  · simp only [Act.put, List.setIfInBounds_toArray, List.set_cons_zero, List.set_cons_succ, i64_w, i32_w]
                    rfl
                  refine pure_ (i := 7) (N := some 22) (v := ?_) (a' := ?_) #[true, true, true, true, false, true, true, true, false, false, false, false, false, false, false] rfl rfl (any_of HT_.out (by kernel_rfl)) (fun _ _ _ h => h) (Or.inl ⟨by rfl, ?_⟩) ?_ ?_
                  rotate_left
                  · intro w'
                    go_simp
                    with_reducible rfl
                  rotate_left
                  · simp only [Act.put, List.setIfInBounds_toArray, List.set_cons_zero, List.set_cons_succ, i64_w, i32_w]
                    rfl
                  refine take_ (i := 4) (N := some 19) (v := ?_) (a' := ?_) #[true, true, true, true, true, true, true, true, false, false, false, false, false, false, false] rfl rfl (take_ofW HT_.out HW_.out (by kernel_rfl)) (fun _ _ _ h => h) (Or.inl ⟨by rfl, ?_⟩) hHeld ?_ ?_
                  rotate_left
                  · rintro w' ⟨s0, s1⟩
                    go_simp
                    with_reducible rfl
                  rotate_left
                  · simp only [Act.put, List.setIfInBounds_toArray, List.set_cons_zero, List.set_cons_succ, i64_w, i32_w]
                    rfl
                  refine take_ (i := 8) (N := some 23) (v := ?_) (a' := ?_) #[true, true, true, true, true, true, true, true, true, false, false, false, false, false, false] rfl rfl (take_ofW HT_.out HW_.out (by kernel_rfl)) (fun _ _ _ h => h) (Or.inl ⟨by rfl, ?_⟩) hHeld ?_ ?_
                  rotate_left
                  · rintro w' ⟨s0, s1⟩
                    go_simp
                    with_reducible rfl
                  rotate_left
                  · simp only [Act.put, List.setIfInBounds_toArray, List.set_cons_zero, List.set_cons_succ, i64_w, i32_w]
                    rfl
                  refine pure_ (i := 9) (N := some 24) (v := ?_) (a' := ?_) #[true, true, true, true, true, true, true, true, true, true, false, false, false, false, false] rfl rfl (any_of HT_.out (by kernel_rfl)) (fun _ _ _ h => h) (Or.inl ⟨by rfl, ?_⟩) ?_ ?_
                  rotate_left
                  · intro w'
                    go_simp
                    with_reducible rfl
                  rotate_left
                  · simp only [Act.put, List.setIfInBounds_toArray, List.set_cons_zero, List.set_cons_succ, i64_w, i32_w]
                    rfl
                  refine pure_ (i := 10) (N := some 25) (v := ?_) (a' := ?_) #[true, true, true, true, true, true, true, true, true, true, true, false, false, false, false] rfl rfl (any_of HT_.out (by kernel_rfl)) (fun _ _ _ h => h) (Or.inl ⟨by rfl, ?_⟩) ?_ ?_
                  rotate_left
                  · intro w'
                    go_simp
                    with_reducible rfl
                  rotate_left
                  · simp only [Act.put, List.setIfInBounds_toArray, List.set_cons_zero, List.set_cons_succ, i64_w, i32_w]
                    rfl
                  refine pure_ (i := 11) (N := some 26) (v := ?_) (a' := ?_) #[true, true, true, true, true, true, true, true, true, true, true, true, false, false, false] rfl rfl (any_of HT_.out (by kernel_rfl)) (fun _ _ _ h => h) (Or.inl ⟨by rfl, ?_⟩) ?_ ?_
                  rotate_left
                  · intro w'
                    go_simp
                    with_reducible rfl
                  rotate_left
                  · simp only [Act.put, List.setIfInBounds_toArray, List.set_cons_zero, List.set_cons_succ, i64_w, i32_w]
                    rfl
                  refine one_ (i := 12) (N := some 27) #[true, true, true, true, true, true, true, true, true, true, true, true, true, false, false] rfl rfl (one_of HT_.out (by kernel_rfl)) (by decide) (fun K hK => ?_)
                  refine value_ (w1 := ?_) (v := ?_) (by rfl) rfl ?_ ?_
                  rotate_left 2
                  · go_simp
                    constructor
                    · rfl
                    · rfl
                  refine hK.out _ _ ⟨(World.cell?_alloc_lt _ _ _ (World.block_lt_of_cell? _ _ (((HB.out.cell (World.block_lt_of_cell? w _ hw155_0)).trans hw155_0)))).trans (((HB.out.cell (World.block_lt_of_cell? w _ hw155_0)).trans hw155_0)), (World.cell?_alloc_lt _ _ _ (World.block_lt_of_cell? _ _ (((HB.out.cell (World.block_lt_of_cell? w _ hw156_0)).trans hw156_0)))).trans (((HB.out.cell (World.block_lt_of_cell? w _ hw156_0)).trans hw156_0))⟩ (fun hHeld => ?_)
                  clear hK K
                  refine norm_ (a' := ?_) ?_ ?_
                  rotate_left
                  · show Act.put _ (some 27) _ = _
                    simp only [Act.put, List.setIfInBounds_toArray, List.set_cons_zero, List.set_cons_succ, i64_w, i32_w]
                    rfl
                  refine one_ (i := 13) (N := some 28) #[true, true, true, true, true, true, true, true, true, true, true, true, true, true, false] rfl rfl (one_of HT_.out (by kernel_rfl)) (by decide) (fun K hK => ?_)
                  refine Kd.R_append_step Kd.string (w0 := w) w.heap.size (by rfl) (.tmp 15) (.tmp 27) 41 9 (.string ⟨#[]⟩) 16 rfl Tryd.underlying41 info9 rfl (by decide) (by omega) u3 x3_1 ((rdOf ByteArray.empty l0 x4_1).extract 0 ((ji5) : Int).toNat) [.string ((rdOf ByteArray.empty l0 x4_1).extract 0 ((ji5) : Int).toNat)] (fun _ => True) (fun _ => False) rfl rfl ?aP (fun _ hk => hk.elim) ?aF ?aO ?aB ?aS ?aL ?_
                  (case aP => exact rfl)
                  (case aB => exact (belU HB.out))
                  (case aF => exact (fun _ _ => trivial))
                  (case aO => exact (RU HO_3.out))
                  (case aS => exact (sizU HB.out))
                  (case aL => have := LMc8.out; omega)
                  intro v158 w10 ho hb hg hat
                  rw [← Ny157.out] at ho
                  have n0_ := Aside0.mk (hb)
                  have n1_ := Aside0.mk (ho)
                  clear HB
                  clear HO_3
                  have HB := n0_
                  have HO159 := n1_
                  clear n0_ n1_
                  clear ho hb hg hat
                  refine hK.out _ _ ⟨((HB.out.cell (World.block_lt_of_cell? w _ hw155_0)).trans hw155_0), ((HB.out.cell (World.block_lt_of_cell? w _ hw156_0)).trans hw156_0)⟩ (fun hHeld => ?_)
                  clear hK K
                  refine norm_ (a' := ?_) ?_ ?_
                  rotate_left
                  · show Act.put _ (some 28) _ = _
                    simp only [Act.put, List.setIfInBounds_toArray, List.set_cons_zero, List.set_cons_succ, i64_w, i32_w]
                    rfl
                  refine pure_ (i := 14) (N := some 3) (v := ?_) (a' := ?_) #[true, true, true, true, true, true, true, true, true, true, true, true, true, true, true] rfl rfl (any_of HT_.out (by kernel_rfl)) (fun _ _ _ h => h) (Or.inl ⟨by rfl, ?_⟩) ?_ ?_
                  rotate_left
                  · intro w'
                    go_simp
                    with_reducible rfl
                  rotate_left
                  · simp only [Act.put, List.setIfInBounds_toArray, List.set_cons_zero, List.set_cons_succ, i64_w, i32_w]
                    rfl
                  refine done_ (done_of HT_.out (by kernel_rfl)) ?_
                  try go_wp2
                  go_roundg k1
                  case measure => have := HK1.out; omega
                  case rel => exact ⟨(y157), (wrap64 (x4_1 + 1)), (by first | rfl | (simp; done) | (simp [*]; done)), H', ⟨by have := HK1.out; omega⟩, ⟨RU HO159.out⟩, ⟨belU HB.out⟩⟩
                · rw [if_neg c8] at H
                  exact absurd H (by simp)
              · rw [if_neg c7] at H
                exact absurd H (by simp)
            · rw [if_neg c6] at H
              exact absurd H (by simp)
          · rw [if_neg c4] at H
            exact absurd H (by simp)
        · rw [if_neg c3] at H
          have c3b0 : decide (x4_1 < 10) = false := decide_eq_false c3
          clear c3
          obtain rfl := Option.some.inj H
          go_wp2
          go_ret
          exact ⟨_, by first | rfl | (simp [errW_none, errW_some] <;> rfl) | (simp [*, errW_none, errW_some] <;> rfl), by (with_reducible repeat (first | apply Kd.R_alloc | apply Kd.R_drewN | apply Kd.R_drew)); exact HO_3.out, belU HB.out⟩
      · rw [if_neg c2] at H
        have c2b0 : decide (x4_1 < (l0.length : Int)) = false := decide_eq_false c2
        clear c2
        obtain rfl := Option.some.inj H
        go_wp2
        go_ret
        exact ⟨_, by first | rfl | (simp [errW_none, errW_some] <;> rfl) | (simp [*, errW_none, errW_some] <;> rfl), by (with_reducible repeat (first | apply Kd.R_alloc | apply Kd.R_drewN | apply Kd.R_drew)); exact HO_3.out, belU HB.out⟩

end Go.Proofs.YtjllbkeobibnkaaDoor.Q

namespace Go.Proofs.YtjllbkeobibnkaaDoor.Q
open Go Go.Proofs Go.Shelf Go.RowKit Go.Lib Go.Sort Go.Proofs.YtjllbkeobibnkaaDoorP Go.Proofs.YtjllbkeobibnkaaDoorK Go.Proofs.YtjllbkeobibnkaaDoorW.PrintWords Go.Proofs.YtjllbkeobibnkaaDoorW.PrintLast Go.Proofs.YtjllbkeobibnkaaDoorW.PrintMore
set_option linter.unusedSimpArgs false
set_option linter.unusedVariables false
def scL (l : List ByteArray) : List ByteArray := (l.take 10).map cutB
theorem sc_loop (l : List ByteArray) (d : Nat) : ∀ (i k : Nat) (out : List ByteArray), i + d = min l.length 10 → d < k → out.length ≤ i → aquiferlaw28_scoped.l0 k l out (i : Int) = some (out ++ ((l.take 10).drop i).map cutB) := by
  induction d with
  | zero =>
    intro i k out h hk ho
    obtain ⟨k, rfl⟩ : ∃ q, k = q + 1 := ⟨k - 1, by omega⟩
    unfold aquiferlaw28_scoped.l0
    have e : (l.take 10).drop i = [] := List.drop_of_length_le (by rw [List.length_take]; omega)
    rw [e, List.map_nil, List.append_nil]
    by_cases hl : i < l.length
    · rw [if_pos (by omega), if_neg (by omega)]
    · rw [if_neg (by omega)]
  | succ d ih =>
    intro i k out h hk ho
    obtain ⟨k, rfl⟩ : ∃ q, k = q + 1 := ⟨k - 1, by omega⟩
    have hi : i < l.length := by omega
    have hm := mn_ok l[i]
    have ht : i < (l.take 10).length := by rw [List.length_take]; omega
    unfold aquiferlaw28_scoped.l0
    rw [if_pos (by omega), if_pos (by omega), if_pos (by omega), rdB l i hi, if_pos hm.1, if_pos hm.2, if_pos (by omega), wr1 i (by omega), ih (i + 1) k _ (by omega) (by omega) (by simp; omega), List.drop_eq_getElem_cons ht, List.map_cons, List.getElem_take, List.append_assoc]
    rfl
theorem sc_fn (l : List ByteArray) (k : Nat) (hk : 11 ≤ k) : aquiferlaw28_scoped.f k l = some (scL l) := by
  have h := sc_loop l (min l.length 10) 0 k [] (by omega) (by omega) (Nat.le_refl _)
  unfold aquiferlaw28_scoped.f
  rw [List.drop_zero, List.nil_append] at h
  exact h
theorem sc_len (l : List ByteArray) : (scL l).length ≤ 10 := by
  unfold scL
  rw [List.length_map, List.length_take]
  omega
theorem sc_size (l : List ByteArray) : ∀ p ∈ scL l, p.size ≤ 110 := by
  intro p hp
  unfold scL at hp
  obtain ⟨x, _, rfl⟩ := List.mem_map.1 hp
  exact cutB_size x
theorem sc_short (l : List ByteArray) : shortP (scL l) = true := by
  have h1 := sc_len l
  have h2 := sc_size l
  unfold shortP
  rw [decide_eq_true (by omega : (scL l).length ≤ 1048576), Bool.true_and, List.all_eq_true]
  intro p hp
  have := h2 p hp
  exact decide_eq_true (by omega)
theorem scoped_any (w : World) (A : Option Addr) (c : Nat) (l : List ByteArray) (hC : Kd.C Kd.string w A l.length l) (hc : l.length ≤ c) :
    Calls Tryd.prog 17 #[.slice A l.length c] w fun e w' => ∃ v, e = .returned v ∧ Kd.R Kd.string 9 w' w.heap.size (fun _ => True) v (scL l) ∧ Below w.heap.size w w' :=
  aquiferlaw28_scoped.calls 11 A c l _ w hC hc (sc_fn l 11 (Nat.le_refl _))
end Go.Proofs.YtjllbkeobibnkaaDoor.Q

namespace Go.Proofs.YtjllbkeobibnkaaDoor.Q
open Go Go.Proofs Go.RowKit Go.Lib Go.Sort Go.Proofs.YtjllbkeobibnkaaDoorP Go.Proofs.YtjllbkeobibnkaaDoorK
set_option linter.unusedVariables false
set_option linter.unusedSimpArgs false
theorem chunk_len (s : S24) (inn ch : List ByteArray) (p : ByteArray) : (chunkP s inn ch p).1.length ≤ 2 := by
  unfold chunkP
  split
  · simp
  · split
    · split <;> simp
    · split <;> simp
theorem planR_len (s : S24) (inn : List ByteArray) : ∀ (l ch : List ByteArray), (planR s inn ch l).length ≤ 2 * l.length := by
  intro l
  induction l with
  | nil => intro ch; simp [planR]
  | cons p l ih =>
    intro ch
    rw [planR, List.length_append]
    have h1 := chunk_len s inn ch p
    have h2 := ih (ch ++ (chunkP s inn ch p).2)
    simp only [List.length_cons]
    omega
theorem few_paths (s : S24) : (pathsS (fewS s)).length ≤ 60 := by
  unfold pathsS
  have a := mergeL_len (mergeL (pathsK (fewS s).f0) (pathsK (fewS s).f1)) (pathsK (fewS s).f2)
  have b := mergeL_len (pathsK (fewS s).f0) (pathsK (fewS s).f1)
  have h : ∀ l : List S58, (pathsK (fewL l)).length ≤ 20 := by
    intro l
    unfold pathsK fewL
    rw [List.length_map, List.length_map, List.length_take]
    omega
  have h0 : (pathsK (fewS s).f0).length ≤ 20 := h _
  have h1 : (pathsK (fewS s).f1).length ≤ 20 := h _
  have h2 : (pathsK (fewS s).f2).length ≤ 20 := h _
  omega
theorem few_plan (s : S24) (inn : List ByteArray) : (planF (fewS s) inn).1.length ≤ 120 := by
  rw [planF_eq]
  have h1 := planR_len (fewS s) inn (pathsS (fewS s)) []
  have h2 := few_paths s
  omega
theorem few_roomK (l : List S58) (m : Nat) (hm : m ≤ 240) : roomK m (fewL l) := by
  refine ⟨?_, (fewK_open (fewL_few l)).2⟩
  unfold fewL
  rw [List.length_map, List.length_take]
  omega
theorem few_room (s : S24) (inn : List ByteArray) : Room (2 * (planF (fewS s) inn).1.length) (fewS s) := by
  have h := few_plan s inn
  exact ⟨few_roomK _ _ (by omega), few_roomK _ _ (by omega), few_roomK _ _ (by omega)⟩
theorem has_size {inn : List ByteArray} {p : ByteArray} (h : hasS inn p = true) : p.size ≤ 96 := by
  unfold hasS at h
  rw [Bool.and_eq_true] at h
  exact (isP_open h.1).1
theorem plan_size {s : S24} {inn : List ByteArray} (hm : mayS inn = true) : ∀ x ∈ (planF s inn).1, x.f2.size ≤ 32000 ∧ x.f3.size ≤ 32000 := by
  intro x hx
  obtain ⟨h1, h2⟩ := plan_steps hm x hx
  have h3 := has_size h1
  refine ⟨by omega, ?_⟩
  rcases h2 with e | h2
  · rw [e]; decide
  · have := has_size h2; omega
theorem allS_room (top : Int) : ∀ (l : List S33) (i : Nat) (s : S24) (st : Bool), Room (2 * l.length) s → (∀ x ∈ l, x.f2.size ≤ 32000 ∧ x.f3.size ≤ 32000) → Room 0 (allS top i l s st).1 := by
  intro l
  induction l with
  | nil => intro i s st h _; exact h
  | cons x l ih =>
    intro i s st h hz
    have hl : ∀ y ∈ l, y.f2.size ≤ 32000 ∧ y.f3.size ≤ 32000 := fun y hy => hz y (List.mem_cons_of_mem _ hy)
    have h2 : Room (2 * l.length + 2) s := h.le (by simp only [List.length_cons]; omega)
    have h3 := doS_room h2 (hz x List.mem_cons_self).1 (hz x List.mem_cons_self).2 (verS top i)
    unfold allS
    split
    · exact ih _ _ _ (h2.le (by omega)) hl
    · split
      · exact ih _ _ _ h3 hl
      · exact h3.le (by omega)
theorem room_len {m : Nat} {s : S24} (h : Room m s) : s.f0.length ≤ 1048576 ∧ s.f1.length ≤ 1048576 ∧ s.f2.length ≤ 1048576 := by
  have h1 := h.a.1
  have h2 := h.l.1
  have h3 := h.r.1
  exact ⟨by omega, by omega, by omega⟩
theorem planS_bad {s : S24} {inn : List ByteArray} (h : ¬ (checkS s = 0 ∧ mayS inn = true)) : planS s inn = ([], 2) := by
  unfold planS
  rw [if_neg h]
theorem planS_good {s : S24} {inn : List ByteArray} (h : checkS s = 0 ∧ mayS inn = true) : planS s inn = ((planF s inn).1, 0) := by
  unfold planS
  rw [if_pos h]
end Go.Proofs.YtjllbkeobibnkaaDoor.Q
