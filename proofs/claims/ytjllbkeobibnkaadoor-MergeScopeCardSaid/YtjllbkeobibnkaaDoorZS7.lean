/- Parts of the proof: PLaws, PWorks, HPlan, HWorks1, HWorks, HTells, Q65, HScoped, PReady, HRSame. -/
import Derived.Test.YtjllbkeobibnkaaDoorZS6
import Derived.Test.YtjllbkeobibnkaaDoorZS4
import Derived.Test.YtjllbkeobibnkaaDoorZS2
import Derived.StillTailTactics
import Derived.BigQuiet
import Derived.Test.YtjllbkeobibnkaaDoorZS1
import Derived.Test.YtjllbkeobibnkaaDoorWWords
import Derived.Test.YtjllbkeobibnkaaDoorWMore
import Derived.Test.YtjllbkeobibnkaaDoorWEqStruct
import Derived.RegionTactic
set_option linter.unusedVariables false
set_option linter.unusedSimpArgs false
namespace Go.Proofs.YtjllbkeobibnkaaDoor.Q
open Go Go.Proofs Go.RowKit Go.Lib Go.Sort Go.Proofs.YtjllbkeobibnkaaDoorP Go.Proofs.YtjllbkeobibnkaaDoorK
set_option linter.unusedVariables false
set_option linter.unusedSimpArgs false
def risP (l : List ByteArray) : Prop := l.Pairwise fun x y => pcmp x y < 0
theorem merge_ris (x : List ByteArray) : ∀ y, risP x → risP y → risP (mergeL x y) := by
  induction x with
  | nil => intro y _ hy; exact hy
  | cons a x ih =>
    intro y hx
    have hx1 := List.pairwise_cons.1 hx
    induction y with
    | nil =>
      intro hy
      rw [mergeL_end]
      refine List.pairwise_cons.2 ⟨fun z hz => ?_, ih [] hx1.2 hy⟩
      rcases mergeL_mem _ _ z hz with h | h
      · exact hx1.1 z h
      · cases h
    | cons b y ih2 =>
      intro hy
      have hy1 := List.pairwise_cons.1 hy
      rw [mergeL_cons]
      by_cases h1 : pcmp a b < 0
      · rw [if_pos h1]
        refine List.pairwise_cons.2 ⟨fun z hz => ?_, ih _ hx1.2 hy⟩
        rcases mergeL_mem _ _ z hz with h | h
        · exact hx1.1 z h
        · rcases List.mem_cons.1 h with e | h
          · rw [e]; exact h1
          · exact good_path.trans _ _ _ h1 (hy1.1 z h)
      · rw [if_neg h1]
        by_cases h2 : 0 < pcmp a b
        · rw [if_pos h2]
          have hba := (good_path.lt b a).2 h2
          refine List.pairwise_cons.2 ⟨fun z hz => ?_, ih2 hy1.2⟩
          rcases mergeL_mem _ _ z hz with h | h
          · rcases List.mem_cons.1 h with e | h
            · rw [e]; exact hba
            · exact good_path.trans _ _ _ hba (hx1.1 z h)
          · exact hy1.1 z h
        · rw [if_neg h2]
          have e := good_path.eq a b (by omega)
          refine List.pairwise_cons.2 ⟨fun z hz => ?_, ih _ hx1.2 hy1.2⟩
          rcases mergeL_mem _ _ z hz with h | h
          · exact hx1.1 z h
          · rw [e]; exact hy1.1 z h
theorem merge_in (x : List ByteArray) : ∀ y p, p ∈ x ∨ p ∈ y → p ∈ mergeL x y := by
  induction x with
  | nil => intro y p h; exact h.resolve_left (by simp)
  | cons a x ih =>
    intro y
    induction y with
    | nil =>
      intro p h
      rw [mergeL_end]
      rcases List.mem_cons.1 (h.resolve_right (by simp)) with e | h
      · rw [e]; exact List.mem_cons_self
      · exact List.mem_cons_of_mem _ (ih [] p (.inl h))
    | cons b y ih2 =>
      intro p h
      rw [mergeL_cons]
      by_cases h1 : pcmp a b < 0
      · rw [if_pos h1]
        rcases h with h | h
        · rcases List.mem_cons.1 h with e | h
          · rw [e]; exact List.mem_cons_self
          · exact List.mem_cons_of_mem _ (ih _ p (.inl h))
        · exact List.mem_cons_of_mem _ (ih _ p (.inr h))
      · rw [if_neg h1]
        by_cases h2 : 0 < pcmp a b
        · rw [if_pos h2]
          rcases h with h | h
          · exact List.mem_cons_of_mem _ (ih2 p (.inl h))
          · rcases List.mem_cons.1 h with e | h
            · rw [e]; exact List.mem_cons_self
            · exact List.mem_cons_of_mem _ (ih2 p (.inr h))
        · rw [if_neg h2]
          have e := good_path.eq a b (by omega)
          rcases h with h | h
          · rcases List.mem_cons.1 h with e | h
            · rw [e]; exact List.mem_cons_self
            · exact List.mem_cons_of_mem _ (ih _ p (.inl h))
          · rcases List.mem_cons.1 h with e2 | h
            · rw [e2, e]; exact List.mem_cons_self
            · exact List.mem_cons_of_mem _ (ih _ p (.inr h))
theorem pathsK_ris {l : List S58} (h : risK l) : risP (pathsK l) := by
  unfold pathsK risP
  rw [List.pairwise_map]
  exact h
theorem paths_nodup {s : S24} (h : OkS s) : (pathsS s).Nodup := by
  have hr : risP (pathsS s) := merge_ris _ _ (merge_ris _ _ (pathsK_ris h.a.ris) (pathsK_ris h.l.ris)) (pathsK_ris h.r.ris)
  refine List.Pairwise.imp (fun {a b} hab e => ?_) hr
  rw [e, good_path.refl] at hab
  omega
theorem pathsK_iff (l : List S58) (p : ByteArray) : p ∈ pathsK l ↔ (getK l p).isSome = true := by
  unfold pathsK
  rw [List.mem_map]
  constructor
  · rintro ⟨k, hk, rfl⟩
    cases hg : getK l k.f0 with
    | some a => rfl
    | none => exact absurd rfl (get_none.1 hg k hk)
  · intro h
    obtain ⟨a, ha⟩ := Option.isSome_iff_exists.1 h
    exact ⟨_, get_mem ha, rfl⟩
theorem paths_iff (s : S24) (p : ByteArray) : p ∈ pathsS s ↔ hasK s p = true := by
  rw [hasK_st]
  unfold pathsS gK
  simp only [Bool.or_eq_true, ← pathsK_iff]
  constructor
  · intro h
    rcases mergeL_mem _ _ p h with h | h
    · rcases mergeL_mem _ _ p h with h | h
      · exact .inl h
      · exact .inr (.inl h)
    · exact .inr (.inr h)
  · rintro (h | h | h)
    · exact merge_in _ _ _ (.inl (merge_in _ _ _ (.inl h)))
    · exact merge_in _ _ _ (.inl (merge_in _ _ _ (.inr h)))
    · exact merge_in _ _ _ (.inr h)
theorem may_dirs {inn : List ByteArray} (h : mayS inn = true) : ∀ d ∈ inn, kindS d ≠ (2, 0) := by
  unfold mayS at h
  rw [Bool.and_eq_true] at h
  have hd : ∀ (l : List ByteArray) (q : Option ByteArray), mayA q l = true → ∀ d ∈ l, dirS d = 0 := by
    intro l
    induction l with
    | nil => intro q _ d hd; cases hd
    | cons p l ih =>
      intro q hq d hd
      have h2 : dirS p = 0 ∧ mayA (some p) l = true := by
        cases q <;> simp [mayA] at hq
        · exact hq
        · exact ⟨hq.1, hq.2.2.2⟩
      rcases List.mem_cons.1 hd with e | hd
      · rw [e]; exact h2.1
      · exact ih _ h2.2 d hd
  intro d hm e
  have h2 := hd inn none h.1 d hm
  unfold dirS at h2
  rw [if_pos ⟨by rw [e], by rw [e]⟩] at h2
  cases h2
theorem top_ok (s : S24) (h : OkS s) : 1 ≤ topS s ∧ topS s ≤ 1099511627776 := by
  have k1 := fun (k : S58) (hk : k ∈ s.f0) => ((okK_iff 1 k.f0 k.f1).1 (h.a.ok k hk)).2.2.2.2
  have k2 := fun (k : S58) (hk : k ∈ s.f1) => ((okK_iff 0 k.f0 k.f1).1 (h.l.ok k hk)).2.2.2.2
  have k3 := fun (k : S58) (hk : k ∈ s.f2) => ((okK_iff 1 k.f0 k.f1).1 (h.r.ok k hk)).2.2.2.2
  have m1 := mxS_le (a := 1) (b := 1099511627776) (by omega) k1
  have m2 := mxS_le m1.2 k2
  have m3 := mxS_le m2.2 k3
  unfold topS
  omega
/-- All steps of a plan can be done, and what they leave. -/
structure Ran (s : S24) (inn : List ByteArray) (steps : List S33) (T : S24) : Prop where
  ok : OkS T
  out : ∀ p, hasS inn p = false → gK T p = gK s p
  left : ∀ p, hasK s p = true → LeftP s inn steps T p
theorem run_plan {s : S24} {inn : List ByteArray} (hs : OkS s) (hm : mayS inn = true) : ∃ T st, allS (topS s) 0 (planF s inn).1 s false = (T, st, true) ∧ Ran s inn (planF s inn).1 T := by
  rw [planF_eq]
  have hd := may_dirs hm
  obtain ⟨T, st, h1, h2, h3, h4⟩ := exec (top_ok s hs).1 hd (pathsS s) [] 0 s false (paths_nodup hs) (fun p hp => (paths_iff s p).1 hp) (fun q hq => by cases hq) ⟨hs, fun _ _ => rfl, fun q hq _ => hasK_no hq⟩
  refine ⟨T, st, h1, h2, fun p hp => ?_, fun p hp => h4 p ((paths_iff s p).2 hp)⟩
  by_cases hk : p ∈ pathsS s
  · rcases h4 p hk with ⟨_, h | h | h⟩ | h
    · exact h.2
    · rw [hp] at h; cases h.1
    · rw [hp] at h; cases h.1
    · rw [hp] at h; cases h.1
  · refine h3 p hk (fun x hx h7 e => ?_)
    rcases (plan_in hd _ _ x hx).2 with ⟨_, _, h⟩ | ⟨h, _⟩
    · have := (h h7).2.2.2
      rw [e, hp] at this
      cases this
    · rw [h7] at h; exact absurd h (by decide)
theorem plan_steps {s : S24} {inn : List ByteArray} (hm : mayS inn = true) : ∀ x ∈ (planF s inn).1, hasS inn x.f2 = true ∧ (x.f3 = eB ∨ hasS inn x.f3 = true) := by
  rw [planF_eq]
  intro x hx
  obtain ⟨h1, h2⟩ := plan_in (may_dirs hm) _ _ x hx
  refine ⟨h1, ?_⟩
  rcases h2 with ⟨_, h3, h4⟩ | ⟨_, h, _⟩
  · by_cases h7 : x.f0 = 7
    · exact .inr (h4 h7).2.2.2
    · exact .inl (h3 h7)
  · exact .inl h
def okPrev : List S33 → Prop
  | [] => True
  | x :: l => (∀ y, l.head? = some y → x.f0 = 7 ∨ x.f2 ≠ y.f2) ∧ okPrev l
theorem plan_head {s : S24} {inn : List ByteArray} (hd : ∀ d ∈ inn, kindS d ≠ (2, 0)) : ∀ (l ch : List ByteArray) (y : S33), (planR s inn ch l).head? = some y → y.f2 ∈ l := by
  intro l
  induction l with
  | nil => intro ch y h; cases h
  | cons p l ih =>
    intro ch y h
    rcases chunk_cases (s := s) (ch := ch) p hd with ⟨_, e⟩ | ⟨_, _, e⟩ | ⟨_, h0, _, e⟩ | ⟨_, _, u, e⟩ | ⟨_, _, q, u, _, e, _⟩
    · rw [planR, e] at h; exact List.mem_cons_of_mem _ (ih _ y h)
    · rw [planR, e] at h; exact List.mem_cons_of_mem _ (ih _ y h)
    · rw [planR, e] at h
      injection h with h
      rw [← h, stepS_path _ _ h0]
      exact List.mem_cons_self
    · rw [planR, e] at h
      injection h with h
      rw [← h]
      exact List.mem_cons_self
    · rw [planR, e] at h
      injection h with h
      rw [← h]
      exact List.mem_cons_self
theorem plan_prev {s : S24} {inn : List ByteArray} (hd : ∀ d ∈ inn, kindS d ≠ (2, 0)) : ∀ (l ch : List ByteArray), l.Nodup → (∀ p ∈ l, hasK s p = true) → okPrev (planR s inn ch l) := by
  intro l
  induction l with
  | nil => intro ch _ _; exact trivial
  | cons p l ih =>
    intro ch hnd hK
    obtain ⟨hpl, hnd'⟩ := List.nodup_cons.1 hnd
    have hK' : ∀ q ∈ l, hasK s q = true := fun q hq => hK q (List.mem_cons_of_mem _ hq)
    have hp : ∀ ch' y, (planR s inn ch' l).head? = some y → p ≠ y.f2 := fun ch' y h e => hpl (e ▸ plan_head hd l ch' y h)
    rcases chunk_cases (s := s) (ch := ch) p hd with ⟨_, e⟩ | ⟨_, _, e⟩ | ⟨_, h0, _, e⟩ | ⟨_, _, u, e⟩ | ⟨_, _, q, u, _, e, hf⟩
    · rw [planR, e]; exact ih _ hnd' hK'
    · rw [planR, e]; exact ih _ hnd' hK'
    · rw [planR, e]
      exact ⟨fun y h => .inr (by rw [stepS_path _ _ h0]; exact hp _ y h), ih _ hnd' hK'⟩
    · rw [planR, e]
      exact ⟨fun y h => .inr (hp _ y h), ih _ hnd' hK'⟩
    · rw [planR, e]
      refine ⟨fun y h => .inl rfl, fun y h => .inr (fun e2 => ?_), ih _ hnd' hK'⟩
      have h1 := hK' _ (plan_head hd l _ y h)
      have e3 : q = y.f2 := e2
      rw [← e3, hf.no] at h1
      cases h1
theorem okPrev_at : ∀ (l : List S33), okPrev l → ∀ (i : Nat) (h : i + 1 < l.length), l[i].f0 = 7 ∨ l[i].f2 ≠ l[i + 1].f2 := by
  intro l
  induction l with
  | nil => intro _ i h; simp at h
  | cons x l ih =>
    intro ho i h
    cases i with
    | zero =>
      have hl : 0 < l.length := by simpa using h
      exact ho.1 l[0] (by rw [List.head?_eq_getElem?, List.getElem?_eq_getElem hl])
    | succ i => exact ih ho.2 i (by simpa using h)
theorem plan_at {s : S24} {inn : List ByteArray} (hs : OkS s) (hm : mayS inn = true) (i : Nat) (h : i + 1 < (planF s inn).1.length) : (planF s inn).1[i].f0 = 7 ∨ (planF s inn).1[i].f2 ≠ (planF s inn).1[i + 1].f2 := by
  refine okPrev_at _ ?_ i h
  rw [planF_eq]
  exact plan_prev (may_dirs hm) _ _ (paths_nodup hs) (fun p hp => (paths_iff s p).1 hp)
end Go.Proofs.YtjllbkeobibnkaaDoor.Q

namespace Go.Proofs.YtjllbkeobibnkaaDoor.Q
open Go Go.Proofs Go.Shelf Go.RowKit Go.Lib Go.Sort Go.Proofs.YtjllbkeobibnkaaDoorP Go.Proofs.YtjllbkeobibnkaaDoorK
def sumB (b : UInt8) : Sum := ⟨b :: List.replicate 31 0, rfl⟩
def axB : ByteArray := ⟨#[97, 46, 120]⟩
def ax1B : ByteArray := ⟨#[97, 126, 49, 46, 120]⟩
def wkS : S24 := ⟨[⟨axB, ⟨1, 0, sumB 1⟩⟩], [⟨axB, ⟨0, 0, sumB 2⟩⟩], [⟨axB, ⟨2, 0, sumB 3⟩⟩]⟩
theorem tl_loop (b : ByteArray) : b.toList = b.data.toList := ByteArray.toList_eq b
theorem wk_kind : kindS axB = (2, 0) := by decide +kernel
theorem wk_eq (k : S58) (p : ByteArray) : eqP p k = (k.f0.data.toList == p.data.toList) := by unfold eqP; rw [tl_loop, tl_loop]
theorem wk_check : checkS wkS = 0 := by
  unfold checkS
  rw [if_pos (by decide +kernel)]
  rw [if_neg]
  simp [wkS, badK, findS, wk_eq]
theorem wk_may : mayS [eB] = true := by decide +kernel
theorem wk_paths : pathsS wkS = [axB] := by decide +kernel
theorem wk_has : hasS [eB] axB = true := by decide +kernel
theorem wk_find (v : Int) (b : UInt8) : findS [⟨axB, ⟨v, 0, sumB b⟩⟩] axB = (⟨v, 0, sumB b⟩, true) := by
  unfold findS
  rw [if_pos (by rw [wk_eq]; simp)]
theorem wk_at : atS wkS axB = ⟨⟨1, 0, sumB 1⟩, ⟨0, 0, sumB 2⟩, ⟨2, 0, sumB 3⟩, true, true, true, true, true⟩ := by
  unfold atS wkS
  simp only [wk_find]
  rfl
theorem wk_step : stepS (atS wkS axB) axB = ⟨7, 2, axB, eB⟩ := by
  rw [wk_at]
  rfl
theorem wk_no (v : Int) (b : UInt8) : findS [⟨axB, ⟨v, 0, sumB b⟩⟩] ax1B = (z51, false) := by
  unfold findS
  rw [if_neg (by rw [wk_eq]; exact (by decide +kernel : ¬ (axB.data.toList == ax1B.data.toList) = true))]
  rfl
theorem wk_taken : takenS wkS [] ax1B = false := by
  unfold takenS hasK atS wkS
  simp only [wk_no]
  rfl
theorem wk_cp : cpK axB 1 = (ax1B, 0) := by
  have h1 : cpName axB 1 = ax1B := by decide +kernel
  unfold cpK
  rw [if_pos wk_kind, h1, if_pos (by decide +kernel)]
theorem wk_free : freeN (cpK axB) (takenS wkS []) 999 1 = (ax1B, true) := by
  unfold freeN
  rw [wk_cp]
  rw [if_pos ⟨rfl, wk_taken⟩]
theorem wk_plan : planS wkS [eB] = ([⟨7, 2, axB, ax1B⟩, ⟨1, 0, ax1B, eB⟩], 0) := by
  unfold planS
  rw [if_pos ⟨wk_check, wk_may⟩]
  unfold planF
  rw [wk_paths]
  simp only [List.foldl_cons, List.foldl_nil]
  unfold planStep
  rw [if_neg (by rw [wk_has]; decide), wk_step]
  simp only [wk_free]
  rfl
theorem wk_tiny : tinyS wkS = true := by decide +kernel
theorem wk_short : shortP [eB] = true := by decide +kernel
end Go.Proofs.YtjllbkeobibnkaaDoor.Q

namespace Go.Proofs.YtjllbkeobibnkaaDoor.Q
open Go Go.Proofs Go.Shelf Go.RowKit Go.Lib Go.Sort Go.Proofs.YtjllbkeobibnkaaDoorP Go.Proofs.YtjllbkeobibnkaaDoorK Go.Proofs.YtjllbkeobibnkaaDoorW.PrintWords Go.Proofs.YtjllbkeobibnkaaDoorW.PrintLast Go.Proofs.YtjllbkeobibnkaaDoorW.PrintMore
set_option linter.unusedSimpArgs false
set_option linter.unusedVariables false
attribute [local go_sem] A51_size A51_0 A51_1 A51_g0 A51_g1 A58_size A58_0 A58_1 A58_2 A58_g0 A58_g1 A58_g2 cell_held frozen_held
attribute [local go_sem] zero51 zero58 zero65 set58 laid58 A33 z33 eB
attribute [local go_sem ↓ high] lvx_of
attribute [local go_sem] lv_sc lv24 lv33
attribute [local go_sem ↓ high] lv51 lv51s lv58 lv58a lv65 lv65a lv65l lv65r sc51 sc58 sc65 sc65a sc65l sc65r sc58a
set_option maxRecDepth 100000 in
set_option maxHeartbeats 4000000 in
theorem plan_any (w : World) (s : S24) (v : Array Value) (A0 : Option Addr) (c0 : Nat) (inn : List ByteArray) (hs : SideIn w s v) (ht : tinyS s = true) (hi : Kd.C Kd.string w A0 inn.length inn) (hic : inn.length ≤ c0) (hsh : shortP inn = true) :
    Calls Tryd.prog 18 #[.agg v, .slice A0 inn.length c0] w fun e w' => ∃ v, e = .returned (.tuple #[v, .int .i64 (planS s inn).2]) ∧ k33.R 33 w' w.heap.size (fun _ => True) v (planS s inn).1 ∧ Below w.heap.size w w' := by
  have eg : ∀ args w, (callFunc 45 args).run Tryd.prog w = .ok (.enter 45 args) w := enters_of Tryd.func45 (by kernel_rfl) rfl
  have hin := (shortP_mem hsh).1
  have HK := Aside0.mk (fun W (hb : Below w.heap.size w W) => Check_any W s v (hs.below hb) (tinyS_ok ht))
  have HM := Aside0.mk (fun W (hb : Below w.heap.size w W) => may_any W A0 c0 inn (Kd.C_below hi hb) hic hsh)
  have HP := Aside0.mk (fun W (hb : Below w.heap.size w W) => paths_any W s v (hs.below hb) ht)
  have HH := Aside0.mk (fun W p (hb : Below w.heap.size w W) hp => Has_any W A0 c0 inn p (Kd.C_below hi hb) hin hp)
  have HA := Aside0.mk (fun W p (hb : Below w.heap.size w W) => at_any W s v p (hs.below hb) (okS_short (tinyS_ok ht)))
  have HF := Aside0.mk (fun W p b b2 A cc ch (hb : Below w.heap.size w W) h h2 hC hl hp => free_any W p 45 #[.pointer (some ⟨b, 0, none⟩), .pointer (some ⟨b2, 0, none⟩)] eg (cpK p) (takenS s ch) (plan1_any W s v b b2 A cc ch (hs.below hb) (tinyS_ok ht) h h2 hC hl) (pcopy_any p hp))
  have hpl := paths_len ht
  have HPZ := Aside0.mk (paths_sz ht)
  have h02 := checkS_two s
  obtain ⟨R, hR⟩ : ∃ R, planF s inn = R := ⟨_, rfl⟩
  unfold planS
  rw [hR]
  unfold planF at hR
  obtain ⟨A, c, B, d, C, e, rfl, l1, l2, l3, h1, h2, h3⟩ := hs.out
  clear hs ht l1 l2 l3 h1 h2 h3 eg hi hsh
  generalize s.f0.length = n0 at *
  generalize s.f1.length = n1 at *
  generalize s.f2.length = n2 at *
  generalize pathsS s = l at *
  generalize checkS s = k at *
  generalize mayS inn = my at *
  have HR0 := Aside0.mk hR
  clear hR
  rcases h02 with rfl | rfl
  rotate_left
  · rw [if_neg (fun h => absurd h.1 (by decide))]
    go_enter Tryd.func18, Tryd.ntmps18
    go_wp2_with fail
    refine (HK.out _ (bel _ _)).mono ?_
    rintro r1 w1 ⟨rfl, hb⟩
    have p1 := prev_call hb
    clear hb
    go_wp2_with fail
    go_ret2
    exact ⟨_, rfl, Kd.R_nil _ _ _ _ _, bel _ _⟩
  cases my with
  | false =>
    rw [if_neg (fun h => absurd h.2 (by decide))]
    go_enter Tryd.func18, Tryd.ntmps18
    go_wp2_with fail
    refine (HK.out _ (bel _ _)).mono ?_
    rintro r1 w1 ⟨rfl, hb⟩
    have p1 := prev_call hb
    clear hb
    go_wp2_with fail
    refine (HM.out _ (bel _ _)).mono ?_
    rintro r2 w2 ⟨rfl, hb⟩
    have p2 := prev_call hb
    clear hb
    go_wp2_with fail
    go_ret2
    exact ⟨_, rfl, Kd.R_nil _ _ _ _ _, bel _ _⟩
  | true =>
    rw [if_pos ⟨rfl, rfl⟩]
    go_enter Tryd.func18, Tryd.ntmps18
    go_wp2_with fail
    refine (HK.out _ (bel _ _)).mono ?_
    rintro r1 w1 ⟨rfl, hb⟩
    have p1 := prev_call hb
    clear hb
    go_wp2_with fail
    refine (HM.out _ (bel _ _)).mono ?_
    rintro r2 w2 ⟨rfl, hb⟩
    have p2 := prev_call hb
    clear hb
    go_wp2_with fail
    refine (HP.out _ (bel _ _)).mono ?_
    rintro r3 w3 ⟨v3, rfl, hv, hb⟩
    have p3 := prev_call hb
    have s2 := siz w w2
    obtain ⟨A3, c3, rfl⟩ := Kd.R_slice hv
    have hv := Kd.R_lower hv (Nat.le_refl _)
    have HV3 := Aside0.mk hv
    clear hb hv
    go_wp2_with fail
    have hnb : ∀ ad, A3 = some ad → 0 < l.length → ad.block ≠ w2.heap.size := by
      rintro ad rfl h0 e
      have := Kd.R_base hv ad.block (by simp [Value.ownBlock])
      rw [World.size_alloc] at this
      omega
    have HNB := Aside0.mk hnb
    have s3 : w2.heap.size < w3.heap.size := held_lt (W := w3) (g := w2.heap.size)
    clear hv hnb
    go_loopw [6, 24] (fun u i wr => ∃ (j : Nat) (out : List S33) (ch : List ByteArray) (Ac : Option Addr) (cc : Nat), j ≤ l.length ∧ i = .int .i64 (j : Int) ∧ Aside0 ((l.drop j).foldl (planStep s inn) (out, ch) = R) ∧ out.length ≤ 2 * j ∧ ch.length ≤ j ∧ Aside0 (k33.R 33 wr w3.heap.size (fun _ => True) u out) ∧ Aside0 (Go.Proofs.YtjllbkeobibnkaaDoorK.Holds wr w2.heap.size (.cells #[.slice Ac ch.length cc] 41)) ∧ Aside0 (Go.Proofs.YtjllbkeobibnkaaDoorK.Holds wr w.heap.size (.cells #[.slice A n0 c, .slice B n1 d, .slice C n2 e] 24)) ∧ Aside0 (Kd.string.R 9 wr w3.heap.size (fun _ => True) (.slice Ac ch.length cc) ch) ∧ Aside0 (Below w.heap.size w wr) ∧ Aside0 (Go.Proofs.YtjllbkeobibnkaaDoorK.Kp w3.heap.size w2.heap.size w3 wr)) (fun _ i _ => l.length - (intOf i).toNat)
    case atStart => exact ⟨0, [], [], none, 0, Nat.zero_le _, rfl, HR0, Nat.le_refl _, Nat.le_refl _, ⟨Kd.R_nil _ _ _ _ _⟩, ⟨inferInstance⟩, ⟨inferInstance⟩, ⟨Kd.R_nil _ _ _ _ _⟩, ⟨bel _ _⟩, ⟨inferInstance⟩⟩
    case round =>
      obtain ⟨j, out, ch, Ac, cc, hj, rfl, HI, hol, hcl, HO, HG, HX, HC, HB, HKP⟩ := hrel
      have bw : Bel w.heap.size w wr := ⟨fun _ => HB.out⟩
      have kp := HKP.out
      have hg := HG.out
      have hx := HX.out
      clear HR0
      by_cases hlt : j < l.length
      · obtain ⟨ad, e0, x0⟩ := C_str' (Kd.R_reads' HV3.out).2.2 j hlt
        subst e0
        have hnb := HNB.out ad rfl (by omega)
        replace x0 := kp.cell rfl x0 (by rw [show (ad.add j).block = ad.block by unfold Addr.add; split <;> rfl]; exact hnb)
        have hI := HI.out
        rw [List.drop_eq_getElem_cons hlt, List.foldl_cons] at hI
        have hps := HPZ.out _ (List.getElem_mem hlt)
        generalize l[j] = p at x0 hI hps
        have HHP := Aside0.mk (fun W hb => HH.out W p hb (by omega))
        have HPS := Aside0.mk hps
        have HII := Aside0.mk hI
        clear hI HI hps
        cases hb : hasS inn p with
        | false =>
          have hI := HII.out
          unfold planStep at hI
          rw [if_pos hb] at hI
          have HIN : Aside0 ((l.drop (j + 1)).foldl (planStep s inn) (out, ch) = R) := ⟨hI⟩
          rw [hb] at HHP
          clear hI hb
          go_wp2_with fail
          refine (HHP.out _ (bel _ _)).mono ?_
          rintro r4 w4 ⟨rfl, hb⟩
          have p4 := prev_call hb
          clear hb
          go_wp2_with fail
          go_roundw
          case rel => exact ⟨j + 1, out, ch, Ac, cc, by omega, by go_num, HIN, by omega, by omega, ⟨rowB HO.out (bel wr _)⟩, ⟨inferInstance⟩, ⟨inferInstance⟩, ⟨rowB HC.out (bel wr _)⟩, ⟨bel _ _⟩, ⟨inferInstance⟩⟩
          case measure => simp [intOf]; omega
        | true =>
          have hI := HII.out
          unfold planStep at hI
          rw [if_neg (by rw [hb]; decide)] at hI
          dsimp only at hI
          have HIP := Aside0.mk hI
          rw [hb] at HHP
          have hz := stepS_zero (atS s p) p
          have HAP := Aside0.mk (fun W hb => HA.out W p hb)
          have HST := Aside0.mk (fun W => step_any W (atS s p) p)
          generalize stepS (atS s p) p = x at HST HIP hz
          generalize atS s p = y at HAP HST
          have HZ := Aside0.mk hz
          clear hI hb hz HII
          go_wp2_with fail
          refine (HHP.out _ (bel _ _)).mono ?_
          rintro r4 w4 ⟨rfl, hb⟩
          have p4 := prev_call hb
          clear hb
          go_wp2_with fail
          refine (HAP.out _ (bel _ _)).mono ?_
          rintro r5 w5 ⟨rfl, hb⟩
          have p5 := prev_call hb
          clear hb
          go_wp2_with fail
          refine (HST.out _).mono ?_
          rintro r6 w6 ⟨rfl, hb⟩
          have p6 := prev_call hb
          have s6 : w3.heap.size ≤ w6.heap.size := ((inferInstance : Go.Proofs.YtjllbkeobibnkaaDoorK.Kp w3.heap.size w2.heap.size w3 w6).out (Nat.le_refl _)).1
          have s7 := siz w w3
          have s8 := siz wr w6
          clear hb
          have a1 : Apart w.heap.size (.row w6.heap.size) := apart_ne (by omega)
          have a2 : Apart w2.heap.size (.row w6.heap.size) := apart_ne (by omega)
          have a3 : OwnB w.heap.size (.row w6.heap.size) := own_row (by omega)
          have a4 : OwnB wr.heap.size (.row w6.heap.size) := own_row (by omega)
          have a5 : OwnB w3.heap.size (.row w6.heap.size) := own_row (by omega)
          have s9 : w3.heap.size ≤ wr.heap.size := (kp.out (Nat.le_refl _)).1
          have s10 : w.heap.size < w2.heap.size := held_lt (W := w2) (g := w.heap.size)
          have a6 : Apart w.heap.size (.row w2.heap.size) := apart_ne (by omega)
          have a8 : Apart w6.heap.size (.row w2.heap.size) := apart_ne (by omega)
          have a7 : OwnB w.heap.size (.row w2.heap.size) := own_row (by omega)
          have z9 : Go.Proofs.YtjllbkeobibnkaaDoorK.Size w3.heap.size wr := ⟨s9⟩
          obtain ⟨Ao, co, ho⟩ := Kd.R_slice HO.out
          subst ho
          by_cases h7 : x.f0 = 7
          · have hI := HIP.out
            rw [if_pos h7] at hI
            have HI7 := Aside0.mk hI
            have h7b : (x.f0 != 7) = false := by rw [h7]; rfl
            have HFP := Aside0.mk (fun W b b2 A cc hb h h2 hC => HF.out W p b b2 A cc ch hb h h2 hC (by omega) HPS.out)
            generalize freeN (cpK p) (takenS s ch) 999 1 = q at HFP HI7
            obtain ⟨tq, ok⟩ := q
            dsimp only at HFP HI7
            clear hI HIP h7
            go_wp2_with fail
            refine (HFP.out _ _ _ _ _ (bel _ _) held held (Kd.R_reads' (rowX HC.out)).2.2).mono ?_
            rintro r7 w7 ⟨rfl, hb⟩
            have p7 := prev_call hb
            clear hb
            cases ok with
            | false =>
              have hI := HI7.out
              rw [if_neg (by decide)] at hI
              have HIN : Aside0 ((l.drop (j + 1)).foldl (planStep s inn) (out ++ [⟨8, x.f1, p, eB⟩], ch) = R) := ⟨hI⟩
              clear hI HI7
              go_wp2_with ((with_reducible refine gate_builtin (b := .append) (xs := #[.tmp 55, .tmp 60]) rfl ?_); at_builtin; refine put33 w3.heap.size rfl (.tmp 55) (.tmp 60) rfl (.slice Ao out.length co) out ⟨8, x.f1, p, eB⟩ rfl ?aX ?aO ?aS ?aL ?_; (case aX => first | rfl | (simp only [World.size_setCell, size_setRow, World.size_alloc]; rfl)); (case aO => exact rowX HO.out); (case aS => exact (inferInstance : Go.Proofs.YtjllbkeobibnkaaDoorK.Size w3.heap.size _).out); (case aL => omega); intro v8 w8 h8 hg8 hat8; have p8 := prev_grown hg8; have n8a := noRow_g (L := 9 :: Kd.string.E) hg8 (rowX HO.out) (by decide); have n8b := apart_g (g := w.heap.size) (t := 24) hg8 (rowX HO.out) (by decide); have n8c := apart_g (g := w2.heap.size) (t := 41) hg8 (rowX HO.out) (by decide); have n8d := ownB_g hg8 (rowX HO.out) (Nat.le_refl w3.heap.size); have n8e := ownB_g (b := w.heap.size) hg8 (rowX HO.out) (by omega); have HV8 := Aside0.mk h8; clear h8 hg8 hat8)
              go_roundw
              case rel => exact ⟨j + 1, _, ch, Ac, cc, by omega, by go_num, HIN, by simp only [List.length_append, List.length_singleton]; omega, by omega, HV8, ⟨inferInstance⟩, ⟨inferInstance⟩, ⟨rowX HC.out⟩, ⟨bel _ _⟩, ⟨inferInstance⟩⟩
              case measure => simp [intOf]; omega
            | true =>
              have hI := HI7.out
              rw [if_pos rfl] at hI
              have HIN : Aside0 ((l.drop (j + 1)).foldl (planStep s inn) (out ++ [⟨x.f0, x.f1, x.f2, tq⟩, ⟨1, 0, tq, eB⟩], ch ++ [tq]) = R) := ⟨hI⟩
              clear hI HI7
              go_wp2_with (first
                | ((with_reducible refine gate_builtin (b := .append) (xs := #[.tmp 62, .tmp 64]) rfl ?_); at_builtin; refine put41 w3.heap.size rfl (.tmp 62) (.tmp 64) rfl (.slice Ac ch.length cc) ch tq rfl ?aX ?aO ?aS ?aL ?_; (case aX => first | rfl | (simp only [World.size_setCell, size_setRow, World.size_alloc]; rfl)); (case aO => exact rowX HC.out); (case aS => exact (inferInstance : Go.Proofs.YtjllbkeobibnkaaDoorK.Size w3.heap.size _).out); (case aL => omega); intro v8 w8 h8 hg8 hat8; have p8 := prev_grown hg8; have n8a := noRow_g (L := 33 :: k33.E) hg8 (rowX HC.out) (by decide); have n8b := apart_g (g := w.heap.size) (t := 24) hg8 (rowX HC.out) (by decide); have n8c := apart_g (g := w2.heap.size) (t := 41) hg8 (rowX HC.out) (by decide); have n8f := apart_g (g := w6.heap.size) (t := 33) hg8 (rowX HC.out) (by decide); have n8d := ownB_g hg8 (rowX HC.out) (Nat.le_refl w3.heap.size); have n8e := ownB_g (b := w.heap.size) hg8 (rowX HC.out) (by omega); have n8g := ownB_g (b := w2.heap.size) hg8 (rowX HC.out) (by omega); obtain ⟨A8, c8, e8⟩ := Kd.R_slice h8; subst e8; have HV8 := Aside0.mk h8; clear h8 hg8 hat8)
                | ((with_reducible refine gate_builtin (b := .append) (xs := #[.tmp 68, .tmp 72]) rfl ?_); at_builtin; refine put33two w3.heap.size rfl (.tmp 68) (.tmp 72) rfl (.slice Ao out.length co) out ⟨x.f0, x.f1, x.f2, tq⟩ ⟨1, 0, tq, eB⟩ rfl ?aX ?aO ?aS ?aL ?_; (case aX => first | rfl | (simp only [World.size_setCell, size_setRow, World.size_alloc]; rfl)); (case aO => exact rowX HO.out); (case aS => exact (inferInstance : Go.Proofs.YtjllbkeobibnkaaDoorK.Size w3.heap.size _).out); (case aL => omega); intro v9 w9 h9 hg9 hat9; have p9 := prev_grown hg9; have n9a := noRow_g (L := 9 :: Kd.string.E) hg9 (rowX HO.out) (by decide); have n9b := apart_g (g := w.heap.size) (t := 24) hg9 (rowX HO.out) (by decide); have n9c := apart_g (g := w2.heap.size) (t := 41) hg9 (rowX HO.out) (by decide); have n9d := ownB_g hg9 (rowX HO.out) (Nat.le_refl w3.heap.size); have n9e := ownB_g (b := w.heap.size) hg9 (rowX HO.out) (by omega); have HV9 := Aside0.mk h9; clear h9 hg9 hat9))
              have hq : (ch ++ [tq]).length = ch.length + 1 := by simp
              go_roundw
              case rel => exact ⟨j + 1, _, ch ++ [tq], A8, c8, by omega, by go_num, HIN, by simp only [List.length_append, List.length_cons, List.length_nil]; omega, by omega, HV9, ⟨by rw [hq]; exact inferInstance⟩, ⟨inferInstance⟩, ⟨rowX HV8.out⟩, ⟨bel _ _⟩, ⟨inferInstance⟩⟩
              case measure => simp [intOf]; omega
          · have hI := HIP.out
            rw [if_neg h7] at hI
            have HI7 := Aside0.mk hI
            have h7b : (x.f0 != 7) = true := bne_iff_ne.mpr h7
            clear hI HIP h7
            by_cases h0 : x.f0 = 0
            · have hI := HI7.out
              rw [if_pos h0] at hI
              have HIN : Aside0 ((l.drop (j + 1)).foldl (planStep s inn) (out, ch) = R) := ⟨hI⟩
              have hx := HZ.out h0
              subst hx
              clear hI HI7 h0 h7b
              go_wp2_with fail
              go_roundw
              case rel => exact ⟨j + 1, out, ch, Ac, cc, by omega, by go_num, HIN, by omega, by omega, ⟨rowX HO.out⟩, ⟨inferInstance⟩, ⟨inferInstance⟩, ⟨rowX HC.out⟩, ⟨bel _ _⟩, ⟨inferInstance⟩⟩
              case measure => simp [intOf]; omega
            · have hI := HI7.out
              rw [if_neg h0] at hI
              have HIN : Aside0 ((l.drop (j + 1)).foldl (planStep s inn) (out ++ [x], ch) = R) := ⟨hI⟩
              have h0b : (x.f0 != 0) = true := bne_iff_ne.mpr h0
              have h0c : (x.f0 == 0) = false := beq_eq_false_iff_ne.mpr h0
              clear hI HI7 h0
              go_wp2_with ((with_reducible refine gate_builtin (b := .append) (xs := #[.tmp 43, .tmp 45]) rfl ?_); at_builtin; refine put33 w3.heap.size rfl (.tmp 43) (.tmp 45) rfl (.slice Ao out.length co) out x rfl ?aX ?aO ?aS ?aL ?_; (case aX => first | rfl | (simp only [World.size_setCell, size_setRow, World.size_alloc]; rfl)); (case aO => exact rowX HO.out); (case aS => exact (inferInstance : Go.Proofs.YtjllbkeobibnkaaDoorK.Size w3.heap.size _).out); (case aL => omega); intro v8 w8 h8 hg8 hat8; have p8 := prev_grown hg8; have n8a := noRow_g (L := 9 :: Kd.string.E) hg8 (rowX HO.out) (by decide); have n8b := apart_g (g := w.heap.size) (t := 24) hg8 (rowX HO.out) (by decide); have n8c := apart_g (g := w2.heap.size) (t := 41) hg8 (rowX HO.out) (by decide); have n8d := ownB_g hg8 (rowX HO.out) (Nat.le_refl w3.heap.size); have n8e := ownB_g (b := w.heap.size) hg8 (rowX HO.out) (by omega); have HV8 := Aside0.mk h8; clear h8 hg8 hat8)
              go_roundw
              case rel => exact ⟨j + 1, _, ch, Ac, cc, by omega, by go_num, HIN, by simp only [List.length_append, List.length_singleton]; omega, by omega, HV8, ⟨inferInstance⟩, ⟨inferInstance⟩, ⟨rowX HC.out⟩, ⟨bel _ _⟩, ⟨inferInstance⟩⟩
              case measure => simp [intOf]; omega
      · have hI := HI.out
        rw [List.drop_of_length_le (by omega)] at hI
        simp only [List.foldl_nil] at hI
        have HIE := Aside0.mk hI
        clear hI HI
        go_wp2_with fail
        go_ret2
        exact ⟨_, rfl, Kd.R_lower (by rw [← HIE.out]; exact HO.out) (siz w w3), bel _ _⟩
end Go.Proofs.YtjllbkeobibnkaaDoor.Q

namespace Go.Proofs.YtjllbkeobibnkaaDoor.Q
open Go Go.Proofs Go.Shelf Go.RowKit Go.Lib Go.Sort Go.Proofs.YtjllbkeobibnkaaDoorP Go.Proofs.YtjllbkeobibnkaaDoorK Go.Proofs.YtjllbkeobibnkaaDoorW.PrintWords Go.Proofs.YtjllbkeobibnkaaDoorW.PrintLast Go.Proofs.YtjllbkeobibnkaaDoorW.PrintMore
set_option linter.unusedSimpArgs false
set_option linter.unusedVariables false
theorem one58 {W : World} (p : S58) (cs : Array Value) (hcs : cs = A58 p) : k58.C (W.alloc (.cells cs 58)) (some ⟨W.heap.size, 0, none⟩) 1 [p] := by
  subst hcs
  refine ⟨rfl, by decide, fun _ => ⟨_, rfl, fun j x hj => ?_⟩⟩
  have hb := blk_new W (.cells (A58 p) 58)
  obtain rfl : j = 0 := by
    have := (List.getElem?_eq_some_iff.1 hj).1
    simp at this
    omega
  obtain rfl : p = x := by simpa using hj
  refine ⟨L58 p, L58_len p, rfl, fun i u hi => ?_⟩
  rw [Nat.zero_mul, Nat.zero_add, Addr.add_lit, Nat.zero_add, blk_cell hb]
  unfold A58
  simpa using hi
set_option maxRecDepth 100000 in
set_option maxHeartbeats 4000000 in
theorem works1_any (w : World) (v : Int) (b : UInt8) : Calls Tryd.prog 33 #[.int .i64 v, .int .u8 (b.toNat : Int)] w fun e w' => ∃ ad, e = .returned (.slice (some ad) 1 1) ∧ k58.C w' (some ad) 1 [⟨axB, ⟨v, 0, sumB b⟩⟩] ∧ Below w.heap.size w w' := by
  go_enter Tryd.func33, Tryd.ntmps33
  go_wp2_with fail
  go_ret
  exact ⟨_, rfl, one58 _ _ rfl, bel _ _⟩
end Go.Proofs.YtjllbkeobibnkaaDoor.Q

namespace Go.Proofs.YtjllbkeobibnkaaDoor.Q
open Go Go.Proofs Go.Shelf Go.RowKit Go.Lib Go.Sort Go.Proofs.YtjllbkeobibnkaaDoorP Go.Proofs.YtjllbkeobibnkaaDoorK Go.Proofs.YtjllbkeobibnkaaDoorW.PrintWords Go.Proofs.YtjllbkeobibnkaaDoorW.PrintLast Go.Proofs.YtjllbkeobibnkaaDoorW.PrintMore
set_option linter.unusedSimpArgs false
set_option linter.unusedVariables false
theorem str1 {W : World} {g : Nat} {p : ByteArray} (h : W.heap[g]? = some (.cells #[.string p] 9 (0, 0))) : Kd.string.C W (some ⟨g, 0, none⟩) 1 [p] := by
  refine ⟨rfl, by decide, fun _ => ⟨_, rfl, fun j x hj => ?_⟩⟩
  obtain rfl : j = 0 := by
    have := (List.getElem?_eq_some_iff.1 hj).1
    simp at this
    omega
  obtain rfl : p = x := by simpa using hj
  refine ⟨[.string p], rfl, rfl, fun i u hi => ?_⟩
  rw [Nat.zero_mul, Nat.zero_add, Addr.add_lit, Nat.zero_add, blk_cell h]
  cases i with
  | zero => exact hi
  | succ i => simp at hi
theorem wk_side {W : World} {d1 d2 d3 : Addr} (h1 : k58.C W (some d1) 1 [⟨axB, ⟨1, 0, sumB 1⟩⟩]) (h2 : k58.C W (some d2) 1 [⟨axB, ⟨0, 0, sumB 2⟩⟩]) (h3 : k58.C W (some d3) 1 [⟨axB, ⟨2, 0, sumB 3⟩⟩]) : SideIn W wkS #[.slice (some d1) 1 1, .slice (some d2) 1 1, .slice (some d3) 1 1] :=
  ⟨⟨_, _, _, _, _, _, rfl, Nat.le_refl _, Nat.le_refl _, Nat.le_refl _, h1, h2, h3⟩⟩
attribute [local go_sem] cell_held frozen_held
set_option maxRecDepth 100000 in
set_option maxHeartbeats 4000000 in
theorem works_any (w : World) : Calls Tryd.prog 13 #[] w fun e w' => e = .returned (.bool true) ∧ Below w.heap.size w w' := by
  have eg : ∀ args w, (callFunc 33 args).run Tryd.prog w = .ok (.enter 33 args) w := enters_of Tryd.func33 (by kernel_rfl) rfl
  have HW := Aside0.mk (fun W v b => works1_any W v b)
  have HP := Aside0.mk (fun W d1 d2 d3 g (h1 : k58.C W (some d1) 1 [⟨axB, ⟨1, 0, sumB 1⟩⟩]) (h2 : k58.C W (some d2) 1 [⟨axB, ⟨0, 0, sumB 2⟩⟩]) (h3 : k58.C W (some d3) 1 [⟨axB, ⟨2, 0, sumB 3⟩⟩]) (h4 : Kd.string.C W (some ⟨g, 0, none⟩) 1 [eB]) => plan_any W wkS _ (some ⟨g, 0, none⟩) 1 [eB] (wk_side h1 h2 h3) wk_tiny h4 (Nat.le_refl _) wk_short)
  rw [wk_plan] at HP
  go_enter Tryd.func13, Tryd.ntmps13
  go_wp2_with fail
  refine (HW.out _ 1 1).mono ?_
  rintro e1 w1 ⟨d1, rfl, hc, hb⟩
  have p1 := prev_call hb
  have HC1 := Aside0.mk hc
  clear hb hc
  go_wp2_with fail
  refine (HW.out _ 0 2).mono ?_
  rintro e2 w2 ⟨d2, rfl, hc, hb⟩
  have p2 := prev_call hb
  have HC2 := Aside0.mk hc
  clear hb hc
  go_wp2_with fail
  refine (HW.out _ 2 3).mono ?_
  rintro e3 w3 ⟨d3, rfl, hc, hb⟩
  have p3 := prev_call hb
  have HC3 := Aside0.mk hc
  clear hb hc
  go_wp2_with fail
  refine (HP.out _ _ _ _ _ (Kd.C_below HC1.out (bel _ _)) (Kd.C_below HC2.out (bel _ _)) (Kd.C_below HC3.out (bel _ _)) (str1 held)).mono ?_
  rintro e4 w4 ⟨v, rfl, hv, hb⟩
  have p4 := prev_call hb
  obtain ⟨X, cx, rfl⟩ := Kd.R_slice hv
  have hr := (Kd.R_reads' hv).2.2
  obtain ⟨ad, ea, x0⟩ := C33_at hr 0 (by decide)
  obtain ⟨ad2, eb, x1⟩ := C33_at hr 1 (by decide)
  obtain rfl : ad = ad2 := Option.some.inj (ea.symm.trans eb)
  subst ea
  rw [Nat.zero_mul, add_zero_] at x0
  rw [Addr.add_succ' ad 3] at x1
  obtain ⟨a0, a1, a2, a3⟩ := at33 x0
  obtain ⟨b0, b1, b2, b3⟩ := at33 x1
  simp only [List.getElem_cons_zero, List.getElem_cons_succ] at a0 a1 a2 a3 b0 b1 b2 b3
  simp only [axB, ax1B, eB] at a2 a3 b2 b3
  clear hb hv hr eb x0 x1
  go_wp2_with fail
  go_ret
  exact ⟨rfl, bel _ _⟩
end Go.Proofs.YtjllbkeobibnkaaDoor.Q

namespace Go.Proofs.YtjllbkeobibnkaaDoor.Q
open Go Go.Proofs Go.Shelf Go.RowKit Go.Lib Go.Sort Go.Proofs.YtjllbkeobibnkaaDoorP Go.Proofs.YtjllbkeobibnkaaDoorK Go.Proofs.YtjllbkeobibnkaaDoorW.PrintWords Go.Proofs.YtjllbkeobibnkaaDoorW.PrintLast Go.Proofs.YtjllbkeobibnkaaDoorW.PrintMore
set_option linter.unusedSimpArgs false
set_option linter.unusedVariables false
theorem cutB_size (p : ByteArray) : (cutB p).size ≤ 110 := by
  unfold cutB mn
  rw [ByteArray.size_extract]
  split <;> omega
theorem fewL_few (l : List S58) : fewK (fewL l) = true := by
  unfold fewK fewL
  rw [List.length_map, List.length_take, decide_eq_true (by omega : min 20 l.length ≤ 1000), Bool.true_and, List.all_eq_true]
  intro k hk
  obtain ⟨x, _, rfl⟩ := List.mem_map.1 hk
  have := cutB_size x.f0
  exact decide_eq_true (by show (cutB x.f0).size ≤ 32000; omega)
theorem fewS_tiny (s : S24) : tinyS (fewS s) = true := by
  unfold tinyS fewS
  rw [fewL_few, fewL_few, fewL_few]
  rfl
attribute [local go_sem] min2_mnF min_two cell_held frozen_held
attribute [local go_sem ↓ high] lvx_of
attribute [local go_sem] lv_sc lv24 lv33
--REGWORDS tells1
--END
end Go.Proofs.YtjllbkeobibnkaaDoor.Q

namespace Go.Proofs.YtjllbkeobibnkaaDoor.Q
open Go.RowKit Go.Proofs.YtjllbkeobibnkaaDoorW.PrintWords Go.Proofs.YtjllbkeobibnkaaDoorW.PrintLast Go.Proofs.YtjllbkeobibnkaaDoorW.PrintMore Go.Proofs.YtjllbkeobibnkaaDoorK
attribute [local go_sem] max2_int min2_int max_two min_two max_three min_three max_four min_four   -- for this text's walks alone
attribute [local go_sem ↓] Go.Proofs.YtjllbkeobibnkaaDoorK.isSome_setCell
set_option linter.unusedVariables false
set_option linter.unusedSimpArgs false

def aquiferlaw28_scoped.l0 : Nat → List ByteArray → List ByteArray → Int → Option (List ByteArray)
  | 0, _, _, _ => none
  | k + 1, x0, x3, x4 => if x4 < (x0.length : Int) then (if x4 < 10 then (if 0 ≤ x4 then (if 0 ≤ (mn ((rdOf ByteArray.empty x0 x4).size : Int) 110) then (if (mn ((rdOf ByteArray.empty x0 x4).size : Int) 110) ≤ ((rdOf ByteArray.empty x0 x4).size : Int) then (if x3.length < 8796093022208 then (aquiferlaw28_scoped.l0 k x0 (x3 ++ [(rdOf ByteArray.empty x0 x4).extract 0 ((mn ((rdOf ByteArray.empty x0 x4).size : Int) 110) : Int).toNat]) (wrap64 (x4 + 1))) else (none)) else (none)) else (none)) else (none)) else (some x3)) else (some x3)
def aquiferlaw28_scoped.f (k : Nat) (l0 : List ByteArray) : Option (List ByteArray) := aquiferlaw28_scoped.l0 k l0 ([] : List ByteArray) 0
def aquiferlaw28_scoped.T5 : Bool × List (List Nat × List Nat) := (true, [([], []), ([], []), ([], []), ([1, 2], [1, 2]), ([3], [3]), ([], []), ([], []), ([5, 6], [5, 6]), ([7], [7]), ([8], [8]), ([9], [9]), ([4, 10], [4, 10]), ([11], [11]), ([0, 12], [0, 12]), ([13, 13, 0, 1, 2, 3, 4, 5, 6, 7, 8, 9, 10, 11, 12, 13], [0, 13])])
def aquiferlaw28_scoped.B5 : List Nat := [0, 0, 0, 6, 14, 0, 0, 96, 224, 480, 992, 2046, 4094, 8191, 16383]
theorem aquiferlaw28_scoped.tab5 : rtab .any (opsOf Tryd.f17 5) = aquiferlaw28_scoped.T5 := by kernel_rfl
theorem aquiferlaw28_scoped.bits5 : waitsOk aquiferlaw28_scoped.T5.2 aquiferlaw28_scoped.B5 = true := by kernel_rfl
set_option maxHeartbeats 8000000 in
set_option maxRecDepth 100000 in
theorem aquiferlaw28_scoped.calls (k : Nat) (A0 : Option Addr) (c0 : Nat) (l0 : List ByteArray) (r : List ByteArray) (w : World) (hr0 : Kd.C Kd.string w A0 l0.length l0) (hc0 : l0.length ≤ c0) (h : aquiferlaw28_scoped.f k l0 = some r) :
    Calls Tryd.prog 17 #[.slice A0 l0.length c0] w fun e w' => ∃ v0_ : Value, e = .returned (v0_) ∧ Kd.R Kd.string 9 w' w.heap.size (fun _ => True) v0_ r ∧ Below w.heap.size w w' := by
  have HR0 := Aside0.mk hr0
  have HC0 := Aside0.mk hc0
  clear hr0 hc0
  have HB := Aside0.mk (Below.refl w.heap.size w)
  have H : (aquiferlaw28_scoped.l0 k l0 ([] : List ByteArray) 0) = some r := h
  clear h
  have H' := Aside0.mk H
  clear H
  go_enter Tryd.func17, Tryd.ntmps17
  go_wp2
  go_loopg [3, 4] k (fun kq v3 v4 w' => ∃ (x3_1 : List ByteArray) (x4_1 : Int), v4 = .int .i64 x4_1 ∧ Aside0 (aquiferlaw28_scoped.l0 kq l0 x3_1 x4_1 = some r) ∧ Aside0 (kq ≤ k) ∧ Aside0 (Kd.R Kd.string 9 w' w.heap.size (fun _ => True) v3 x3_1) ∧ Aside0 (Below w.heap.size w w'))
  case atStart => exact ⟨(([] : List ByteArray)), (0), (by first | rfl | (simp; done) | (simp [*]; done)), H', ⟨Nat.le_refl _⟩, ⟨by first | exact Kd.R_nil _ _ _ _ _ | exact Kd.N_nil _ _ _ _ _ | exact Kd.V_nil _ _ _ _ _ | exact Kd.Q_nil _ _ _ _ _ | exact Kd.S_nil _ _ _ _ _⟩, ⟨belU HB.out⟩⟩
  case round =>
    clear H'
    try clear c1
    obtain ⟨x3_1, x4_1, rfl, HA, HK1, HO_3, HB⟩ := hrel
    cases gk with
    | zero => exact absurd HA.out (by simp [aquiferlaw28_scoped.l0])
    | succ k1 =>
      have H := HA.out
      clear HA
      simp only [aquiferlaw28_scoped.l0] at H
      by_cases c2 : x4_1 < (l0.length : Int)
      · rw [if_pos c2] at H
        have c2b0 : decide (x4_1 < (l0.length : Int)) = true := decide_eq_true c2
        clear c2
        by_cases c3 : x4_1 < 10
        · rw [if_pos c3] at H
          have c3b0 : decide (x4_1 < 10) = true := decide_eq_true c3
          clear c3
          by_cases c4 : 0 ≤ x4_1
          · rw [if_pos c4] at H
            have c4b0 : decide (0 ≤ x4_1) = true := decide_eq_true c4
            clear c4
            obtain ⟨ji5, hji5⟩ : ∃ j_ : Int, (mn ((rdOf ByteArray.empty l0 x4_1).size : Int) 110) = j_ := ⟨_, rfl⟩
            replace H : (if 0 ≤ (ji5) then (if (ji5) ≤ ((rdOf ByteArray.empty l0 x4_1).size : Int) then (if x3_1.length < 8796093022208 then (aquiferlaw28_scoped.l0 k1 l0 (x3_1 ++ [(rdOf ByteArray.empty l0 x4_1).extract 0 ((ji5) : Int).toNat]) (wrap64 (x4_1 + 1))) else (none)) else (none)) else (none)) = some r := by first | (rw [hji5] at H; exact H) | (simp only [hji5] at H ⊢; exact H)
            have hji5_ : (if 110 < ((rdOf ByteArray.empty l0 x4_1).size : Int) then 110 else ((rdOf ByteArray.empty l0 x4_1).size : Int)) = ji5 := hji5
            by_cases c6 : 0 ≤ (ji5)
            · rw [if_pos c6] at H
              have c6b0 := eq_true c6
              have c6b1 : decide (0 ≤ (ji5)) = true := decide_eq_true c6
              clear c6
              by_cases c7 : (ji5) ≤ ((rdOf ByteArray.empty l0 x4_1).size : Int)
              · rw [if_pos c7] at H
                have c7b0 := eq_true c7
                have c7b1 : decide ((ji5) ≤ ((rdOf ByteArray.empty l0 x4_1).size : Int)) = true := decide_eq_true c7
                clear c7
                by_cases c8 : x3_1.length < 8796093022208
                · rw [if_pos c8] at H
                  have LMc8 := Aside0.mk c8
                  clear c8
                  obtain ⟨y157, hy157⟩ : ∃ y_ : List ByteArray, y_ = (x3_1 ++ [(rdOf ByteArray.empty l0 x4_1).extract 0 ((ji5) : Int).toNat]) := ⟨_, rfl⟩
                  replace H : (aquiferlaw28_scoped.l0 k1 l0 y157 (wrap64 (x4_1 + 1))) = some r := by first | (rw [hy157]; with_reducible exact H) | (have H2_ := (Option.bind_some _ _).symm.trans H; rw [hy157]; with_reducible exact H2_) | (have H2_ := (Option.bind_some _ _).symm.trans H; with_reducible exact H2_) | with_reducible exact H | (rw [hy157]; exact H) | exact H
                  have Ny157 := Aside0.mk hy157
                  clear hy157
                  have H' := Aside0.mk H
                  clear H
                  try go_wp2
                  have n0_ := Aside0.mk (Kd.R_drew HO_3.out)
                  have n1_ := Aside0.mk (below_drew1 HB.out)
                  clear HO_3
                  clear HB
                  have HO_3 := n0_
                  have HB := n1_
                  clear n0_ n1_
                  have p155 : 0 ≤ (x4_1 : Int) := of_decide_eq_true (by first | (with_reducible assumption) | assumption)
                  have q155 : x4_1 < (l0.length : Int) := of_decide_eq_true (by first | (with_reducible assumption) | assumption)
                  obtain ⟨ad155, e155, hx155_0⟩ := Kd.at_string HR0.out x4_1 p155 q155
                  have hw155_0 := hx155_0
                  cases e155
                  replace hx155_0 := (HB.out.cell (World.block_lt_of_cell? w _ hx155_0)).trans hx155_0
                  replace p155 := eq_true p155
                  replace q155 := eq_true q155
                  have p156 : 0 ≤ (x4_1 : Int) := of_decide_eq_true (by first | (with_reducible assumption) | assumption)
                  have q156 : x4_1 < (l0.length : Int) := of_decide_eq_true (by first | (with_reducible assumption) | assumption)
                  obtain ⟨ad156, e156, hx156_0⟩ := Kd.at_string HR0.out x4_1 p156 q156
                  have hw156_0 := hx156_0
                  obtain rfl : ad155 = ad156 := (by injection e156)
                  replace hx156_0 := (HB.out.cell (World.block_lt_of_cell? w _ hx156_0)).trans hx156_0
                  replace p156 := eq_true p156
                  replace q156 := eq_true q156
                  refine start_ (n := 15) (S := fun w' => w'.cell? (ad155.add (x4_1).toNat) = some (.string (rdOf ByteArray.empty l0 x4_1)) ∧ w'.cell? (ad155.add (x4_1).toNat) = some (.string (rdOf ByteArray.empty l0 x4_1))) (ds := []) #[false, false, false, false, false, false, false, false, false, false, false, false, false, false, false] (by kernel_rfl) rfl rfl ⟨((HB.out.cell (World.block_lt_of_cell? w _ hw155_0)).trans hw155_0), ((HB.out.cell (World.block_lt_of_cell? w _ hw156_0)).trans hw156_0)⟩ (fun hHeld => ?_); refine with_tabW aquiferlaw28_scoped.tab5 aquiferlaw28_scoped.bits5 (fun HT_ HW_ => ?_)
                  generalize wr.drew = w9 at HO_3 HB hx155_0 hx156_0 hHeld ⊢
                  refine pure_ (i := 0) (N := some 15) (v := ?_) (a' := ?_) #[true, false, false, false, false, false, false, false, false, false, false, false, false, false, false] rfl rfl (any_of HT_.out (by kernel_rfl)) (fun _ _ _ h => h) (Or.inl ⟨by rfl, ?_⟩) ?_ ?_
                  rotate_left
                  · intro w'
                    go_simp
                    with_reducible rfl
                  rotate_left
                  · simp only [Act.put, List.setIfInBounds_toArray, List.set_cons_zero, List.set_cons_succ, i64_w, i32_w]
                    rfl
                  refine pure_ (i := 1) (N := some 16) (v := ?_) (a' := ?_) #[true, true, false, false, false, false, false, false, false, false, false, false, false, false, false] rfl rfl (any_of HT_.out (by kernel_rfl)) (fun _ _ _ h => h) (Or.inl ⟨by rfl, ?_⟩) ?_ ?_
                  rotate_left
                  · intro w'
                    go_simp
                    with_reducible rfl
                  rotate_left
                  · simp only [Act.put, List.setIfInBounds_toArray, List.set_cons_zero, List.set_cons_succ, i64_w, i32_w]
                    rfl
                  refine pure_ (i := 2) (N := some 17) (v := ?_) (a' := ?_) #[true, true, true, false, false, false, false, false, false, false, false, false, false, false, false] rfl rfl (any_of HT_.out (by kernel_rfl)) (fun _ _ _ h => h) (Or.inl ⟨by rfl, ?_⟩) ?_ ?_
                  rotate_left
                  · intro w'
                    go_simp
                    with_reducible rfl
                  rotate_left
                  · simp only [Act.put, List.setIfInBounds_toArray, List.set_cons_zero, List.set_cons_succ, i64_w, i32_w]
                    rfl
                  refine pure_ (i := 3) (N := some 18) (v := ?_) (a' := ?_) #[true, true, true, true, false, false, false, false, false, false, false, false, false, false, false] rfl rfl (any_of HT_.out (by kernel_rfl)) (fun _ _ _ h => h) (Or.inl ⟨by rfl, ?_⟩) ?_ ?_
                  rotate_left
                  · intro w'
                    go_simp
                    with_reducible rfl
                  rotate_left
                  · simp only [Act.put, List.setIfInBounds_toArray, List.set_cons_zero, List.set_cons_succ, i64_w, i32_w]
                    rfl
                  refine pure_ (i := 5) (N := some 20) (v := ?_) (a' := ?_) #[true, true, true, true, false, true, false, false, false, false, false, false, false, false, false] rfl rfl (any_of HT_.out (by kernel_rfl)) (fun _ _ _ h => h) (Or.inl ⟨by rfl, ?_⟩) ?_ ?_
                  rotate_left
                  · intro w'
                    go_simp
                    with_reducible rfl
                  rotate_left
                  · simp only [Act.put, List.setIfInBounds_toArray, List.set_cons_zero, List.set_cons_succ, i64_w, i32_w]
                    rfl
                  refine pure_ (i := 6) (N := some 21) (v := ?_) (a' := ?_) #[true, true, true, true, false, true, true, false, false, false, false, false, false, false, false] rfl rfl (any_of HT_.out (by kernel_rfl)) (fun _ _ _ h => h) (Or.inl ⟨by rfl, ?_⟩) ?_ ?_
                  rotate_left
                  · intro w'
                    go_simp
                    with_reducible rfl
                  rotate_left
                  · simp only [Act.put, List.setIfInBounds_toArray, List.set_cons_zero, List.set_cons_succ, i64_w, i32_w]
                    rfl
                  refine pure_ (i := 7) (N := some 22) (v := ?_) (a' := ?_) #[true, true, true, true, false, true, true, true, false, false, false, false, false, false, false] rfl rfl (any_of HT_.out (by kernel_rfl)) (fun _ _ _ h => h) (Or.inl ⟨by rfl, ?_⟩) ?_ ?_
                  rotate_left
                  · intro w'
                    go_simp
                    with_reducible rfl
                  rotate_left
                  · simp only [Act.put, List.setIfInBounds_toArray, List.set_cons_zero, List.set_cons_succ, i64_w, i32_w]
                    rfl
                  refine take_ (i := 4) (N := some 19) (v := ?_) (a' := ?_) #[true, true, true, true, true, true, true, true, false, false, false, false, false, false, false] rfl rfl (take_ofW HT_.out HW_.out (by kernel_rfl)) (fun _ _ _ h => h) (Or.inl ⟨by rfl, ?_⟩) hHeld ?_ ?_
                  rotate_left
                  · rintro w' ⟨s0, s1⟩
                    go_simp
                    with_reducible rfl
                  rotate_left
                  · simp only [Act.put, List.setIfInBounds_toArray, List.set_cons_zero, List.set_cons_succ, i64_w, i32_w]
                    rfl
                  refine take_ (i := 8) (N := some 23) (v := ?_) (a' := ?_) #[true, true, true, true, true, true, true, true, true, false, false, false, false, false, false] rfl rfl (take_ofW HT_.out HW_.out (by kernel_rfl)) (fun _ _ _ h => h) (Or.inl ⟨by rfl, ?_⟩) hHeld ?_ ?_
                  rotate_left
                  · rintro w' ⟨s0, s1⟩
                    go_simp
                    with_reducible rfl
                  rotate_left
                  · simp only [Act.put, List.setIfInBounds_toArray, List.set_cons_zero, List.set_cons_succ, i64_w, i32_w]
                    rfl
                  refine pure_ (i := 9) (N := some 24) (v := ?_) (a' := ?_) #[true, true, true, true, true, true, true, true, true, true, false, false, false, false, false] rfl rfl (any_of HT_.out (by kernel_rfl)) (fun _ _ _ h => h) (Or.inl ⟨by rfl, ?_⟩) ?_ ?_
                  rotate_left
                  · intro w'
                    go_simp
                    with_reducible rfl
                  rotate_left
                  · simp only [Act.put, List.setIfInBounds_toArray, List.set_cons_zero, List.set_cons_succ, i64_w, i32_w]
                    rfl
                  refine pure_ (i := 10) (N := some 25) (v := ?_) (a' := ?_) #[true, true, true, true, true, true, true, true, true, true, true, false, false, false, false] rfl rfl (any_of HT_.out (by kernel_rfl)) (fun _ _ _ h => h) (Or.inl ⟨by rfl, ?_⟩) ?_ ?_
                  rotate_left
                  · intro w'
                    go_simp
                    with_reducible rfl
                  rotate_left
                  · simp only [Act.put, List.setIfInBounds_toArray, List.set_cons_zero, List.set_cons_succ, i64_w, i32_w]
                    rfl
                  refine pure_ (i := 11) (N := some 26) (v := ?_) (a' := ?_) #[true, true, true, true, true, true, true, true, true, true, true, true, false, false, false] rfl rfl (any_of HT_.out (by kernel_rfl)) (fun _ _ _ h => h) (Or.inl ⟨by rfl, ?_⟩) ?_ ?_
                  rotate_left
                  · intro w'
                    go_simp
                    with_reducible rfl
                  rotate_left
                  · simp only [Act.put, List.setIfInBounds_toArray, List.set_cons_zero, List.set_cons_succ, i64_w, i32_w]
                    rfl
                  refine one_ (i := 12) (N := some 27) #[true, true, true, true, true, true, true, true, true, true, true, true, true, false, false] rfl rfl (one_of HT_.out (by kernel_rfl)) (by decide) (fun K hK => ?_)
                  refine value_ (w1 := ?_) (v := ?_) (by rfl) rfl ?_ ?_
                  rotate_left 2
                  · go_simp
                    constructor
                    · rfl
                    · rfl
                  refine hK.out _ _ ⟨(World.cell?_alloc_lt _ _ _ (World.block_lt_of_cell? _ _ (((HB.out.cell (World.block_lt_of_cell? w _ hw155_0)).trans hw155_0)))).trans (((HB.out.cell (World.block_lt_of_cell? w _ hw155_0)).trans hw155_0)), (World.cell?_alloc_lt _ _ _ (World.block_lt_of_cell? _ _ (((HB.out.cell (World.block_lt_of_cell? w _ hw156_0)).trans hw156_0)))).trans (((HB.out.cell (World.block_lt_of_cell? w _ hw156_0)).trans hw156_0))⟩ (fun hHeld => ?_)
                  clear hK K
                  refine norm_ (a' := ?_) ?_ ?_
                  rotate_left
                  · show Act.put _ (some 27) _ = _
                    simp only [Act.put, List.setIfInBounds_toArray, List.set_cons_zero, List.set_cons_succ, i64_w, i32_w]
                    rfl
                  refine one_ (i := 13) (N := some 28) #[true, true, true, true, true, true, true, true, true, true, true, true, true, true, false] rfl rfl (one_of HT_.out (by kernel_rfl)) (by decide) (fun K hK => ?_)
                  refine Kd.R_append_step Kd.string (w0 := w) w.heap.size (by rfl) (.tmp 15) (.tmp 27) 41 9 (.string ⟨#[]⟩) 16 rfl Tryd.underlying41 info9 rfl (by decide) (by omega) u3 x3_1 ((rdOf ByteArray.empty l0 x4_1).extract 0 ((ji5) : Int).toNat) [.string ((rdOf ByteArray.empty l0 x4_1).extract 0 ((ji5) : Int).toNat)] (fun _ => True) (fun _ => False) rfl rfl ?aP (fun _ hk => hk.elim) ?aF ?aO ?aB ?aS ?aL ?_
                  (case aP => exact rfl)
                  (case aB => exact (belU HB.out))
                  (case aF => exact (fun _ _ => trivial))
                  (case aO => exact (RU HO_3.out))
                  (case aS => exact (sizU HB.out))
                  (case aL => have := LMc8.out; omega)
                  intro v158 w10 ho hb hg hat
                  rw [← Ny157.out] at ho
                  have n0_ := Aside0.mk (hb)
                  have n1_ := Aside0.mk (ho)
                  clear HB
                  clear HO_3
                  have HB := n0_
                  have HO159 := n1_
                  clear n0_ n1_
                  clear ho hb hg hat
                  refine hK.out _ _ ⟨((HB.out.cell (World.block_lt_of_cell? w _ hw155_0)).trans hw155_0), ((HB.out.cell (World.block_lt_of_cell? w _ hw156_0)).trans hw156_0)⟩ (fun hHeld => ?_)
                  clear hK K
                  refine norm_ (a' := ?_) ?_ ?_
                  rotate_left
                  · show Act.put _ (some 28) _ = _
                    simp only [Act.put, List.setIfInBounds_toArray, List.set_cons_zero, List.set_cons_succ, i64_w, i32_w]
                    rfl
                  refine pure_ (i := 14) (N := some 3) (v := ?_) (a' := ?_) #[true, true, true, true, true, true, true, true, true, true, true, true, true, true, true] rfl rfl (any_of HT_.out (by kernel_rfl)) (fun _ _ _ h => h) (Or.inl ⟨by rfl, ?_⟩) ?_ ?_
                  rotate_left
                  · intro w'
                    go_simp
                    with_reducible rfl
                  rotate_left
                  · simp only [Act.put, List.setIfInBounds_toArray, List.set_cons_zero, List.set_cons_succ, i64_w, i32_w]
                    rfl
                  refine done_ (done_of HT_.out (by kernel_rfl)) ?_
                  try go_wp2
                  go_roundg k1
                  case measure => have := HK1.out; omega
                  case rel => exact ⟨(y157), (wrap64 (x4_1 + 1)), (by first | rfl | (simp; done) | (simp [*]; done)), H', ⟨by have := HK1.out; omega⟩, ⟨RU HO159.out⟩, ⟨belU HB.out⟩⟩
                · rw [if_neg c8] at H
                  exact absurd H (by simp)
              · rw [if_neg c7] at H
                exact absurd H (by simp)
            · rw [if_neg c6] at H
              exact absurd H (by simp)
          · rw [if_neg c4] at H
            exact absurd H (by simp)
        · rw [if_neg c3] at H
          have c3b0 : decide (x4_1 < 10) = false := decide_eq_false c3
          clear c3
          obtain rfl := Option.some.inj H
          go_wp2
          go_ret
          exact ⟨_, by first | rfl | (simp [errW_none, errW_some] <;> rfl) | (simp [*, errW_none, errW_some] <;> rfl), by (with_reducible repeat (first | apply Kd.R_alloc | apply Kd.R_drewN | apply Kd.R_drew)); exact HO_3.out, belU HB.out⟩
      · rw [if_neg c2] at H
        have c2b0 : decide (x4_1 < (l0.length : Int)) = false := decide_eq_false c2
        clear c2
        obtain rfl := Option.some.inj H
        go_wp2
        go_ret
        exact ⟨_, by first | rfl | (simp [errW_none, errW_some] <;> rfl) | (simp [*, errW_none, errW_some] <;> rfl), by (with_reducible repeat (first | apply Kd.R_alloc | apply Kd.R_drewN | apply Kd.R_drew)); exact HO_3.out, belU HB.out⟩

end Go.Proofs.YtjllbkeobibnkaaDoor.Q

namespace Go.Proofs.YtjllbkeobibnkaaDoor.Q
open Go Go.Proofs Go.Shelf Go.RowKit Go.Lib Go.Sort Go.Proofs.YtjllbkeobibnkaaDoorP Go.Proofs.YtjllbkeobibnkaaDoorK Go.Proofs.YtjllbkeobibnkaaDoorW.PrintWords Go.Proofs.YtjllbkeobibnkaaDoorW.PrintLast Go.Proofs.YtjllbkeobibnkaaDoorW.PrintMore
set_option linter.unusedSimpArgs false
set_option linter.unusedVariables false
def scL (l : List ByteArray) : List ByteArray := (l.take 10).map cutB
theorem sc_loop (l : List ByteArray) (d : Nat) : ∀ (i k : Nat) (out : List ByteArray), i + d = min l.length 10 → d < k → out.length ≤ i → aquiferlaw28_scoped.l0 k l out (i : Int) = some (out ++ ((l.take 10).drop i).map cutB) := by
  induction d with
  | zero =>
    intro i k out h hk ho
    obtain ⟨k, rfl⟩ : ∃ q, k = q + 1 := ⟨k - 1, by omega⟩
    unfold aquiferlaw28_scoped.l0
    have e : (l.take 10).drop i = [] := List.drop_of_length_le (by rw [List.length_take]; omega)
    rw [e, List.map_nil, List.append_nil]
    by_cases hl : i < l.length
    · rw [if_pos (by omega), if_neg (by omega)]
    · rw [if_neg (by omega)]
  | succ d ih =>
    intro i k out h hk ho
    obtain ⟨k, rfl⟩ : ∃ q, k = q + 1 := ⟨k - 1, by omega⟩
    have hi : i < l.length := by omega
    have hm := mn_ok l[i]
    have ht : i < (l.take 10).length := by rw [List.length_take]; omega
    unfold aquiferlaw28_scoped.l0
    rw [if_pos (by omega), if_pos (by omega), if_pos (by omega), rdB l i hi, if_pos hm.1, if_pos hm.2, if_pos (by omega), wr1 i (by omega), ih (i + 1) k _ (by omega) (by omega) (by simp; omega), List.drop_eq_getElem_cons ht, List.map_cons, List.getElem_take, List.append_assoc]
    rfl
theorem sc_fn (l : List ByteArray) (k : Nat) (hk : 11 ≤ k) : aquiferlaw28_scoped.f k l = some (scL l) := by
  have h := sc_loop l (min l.length 10) 0 k [] (by omega) (by omega) (Nat.le_refl _)
  unfold aquiferlaw28_scoped.f
  rw [List.drop_zero, List.nil_append] at h
  exact h
theorem sc_len (l : List ByteArray) : (scL l).length ≤ 10 := by
  unfold scL
  rw [List.length_map, List.length_take]
  omega
theorem sc_size (l : List ByteArray) : ∀ p ∈ scL l, p.size ≤ 110 := by
  intro p hp
  unfold scL at hp
  obtain ⟨x, _, rfl⟩ := List.mem_map.1 hp
  exact cutB_size x
theorem sc_short (l : List ByteArray) : shortP (scL l) = true := by
  have h1 := sc_len l
  have h2 := sc_size l
  unfold shortP
  rw [decide_eq_true (by omega : (scL l).length ≤ 1048576), Bool.true_and, List.all_eq_true]
  intro p hp
  have := h2 p hp
  exact decide_eq_true (by omega)
theorem scoped_any (w : World) (A : Option Addr) (c : Nat) (l : List ByteArray) (hC : Kd.C Kd.string w A l.length l) (hc : l.length ≤ c) :
    Calls Tryd.prog 17 #[.slice A l.length c] w fun e w' => ∃ v, e = .returned v ∧ Kd.R Kd.string 9 w' w.heap.size (fun _ => True) v (scL l) ∧ Below w.heap.size w w' :=
  aquiferlaw28_scoped.calls 11 A c l _ w hC hc (sc_fn l 11 (Nat.le_refl _))
end Go.Proofs.YtjllbkeobibnkaaDoor.Q

namespace Go.Proofs.YtjllbkeobibnkaaDoor.Q
open Go Go.Proofs Go.RowKit Go.Lib Go.Sort Go.Proofs.YtjllbkeobibnkaaDoorP Go.Proofs.YtjllbkeobibnkaaDoorK
set_option linter.unusedVariables false
set_option linter.unusedSimpArgs false
theorem chunk_len (s : S24) (inn ch : List ByteArray) (p : ByteArray) : (chunkP s inn ch p).1.length ≤ 2 := by
  unfold chunkP
  split
  · simp
  · split
    · split <;> simp
    · split <;> simp
theorem planR_len (s : S24) (inn : List ByteArray) : ∀ (l ch : List ByteArray), (planR s inn ch l).length ≤ 2 * l.length := by
  intro l
  induction l with
  | nil => intro ch; simp [planR]
  | cons p l ih =>
    intro ch
    rw [planR, List.length_append]
    have h1 := chunk_len s inn ch p
    have h2 := ih (ch ++ (chunkP s inn ch p).2)
    simp only [List.length_cons]
    omega
theorem few_paths (s : S24) : (pathsS (fewS s)).length ≤ 60 := by
  unfold pathsS
  have a := mergeL_len (mergeL (pathsK (fewS s).f0) (pathsK (fewS s).f1)) (pathsK (fewS s).f2)
  have b := mergeL_len (pathsK (fewS s).f0) (pathsK (fewS s).f1)
  have h : ∀ l : List S58, (pathsK (fewL l)).length ≤ 20 := by
    intro l
    unfold pathsK fewL
    rw [List.length_map, List.length_map, List.length_take]
    omega
  have h0 : (pathsK (fewS s).f0).length ≤ 20 := h _
  have h1 : (pathsK (fewS s).f1).length ≤ 20 := h _
  have h2 : (pathsK (fewS s).f2).length ≤ 20 := h _
  omega
theorem few_plan (s : S24) (inn : List ByteArray) : (planF (fewS s) inn).1.length ≤ 120 := by
  rw [planF_eq]
  have h1 := planR_len (fewS s) inn (pathsS (fewS s)) []
  have h2 := few_paths s
  omega
theorem few_roomK (l : List S58) (m : Nat) (hm : m ≤ 240) : roomK m (fewL l) := by
  refine ⟨?_, (fewK_open (fewL_few l)).2⟩
  unfold fewL
  rw [List.length_map, List.length_take]
  omega
theorem few_room (s : S24) (inn : List ByteArray) : Room (2 * (planF (fewS s) inn).1.length) (fewS s) := by
  have h := few_plan s inn
  exact ⟨few_roomK _ _ (by omega), few_roomK _ _ (by omega), few_roomK _ _ (by omega)⟩
theorem has_size {inn : List ByteArray} {p : ByteArray} (h : hasS inn p = true) : p.size ≤ 96 := by
  unfold hasS at h
  rw [Bool.and_eq_true] at h
  exact (isP_open h.1).1
theorem plan_size {s : S24} {inn : List ByteArray} (hm : mayS inn = true) : ∀ x ∈ (planF s inn).1, x.f2.size ≤ 32000 ∧ x.f3.size ≤ 32000 := by
  intro x hx
  obtain ⟨h1, h2⟩ := plan_steps hm x hx
  have h3 := has_size h1
  refine ⟨by omega, ?_⟩
  rcases h2 with e | h2
  · rw [e]; decide
  · have := has_size h2; omega
theorem allS_room (top : Int) : ∀ (l : List S33) (i : Nat) (s : S24) (st : Bool), Room (2 * l.length) s → (∀ x ∈ l, x.f2.size ≤ 32000 ∧ x.f3.size ≤ 32000) → Room 0 (allS top i l s st).1 := by
  intro l
  induction l with
  | nil => intro i s st h _; exact h
  | cons x l ih =>
    intro i s st h hz
    have hl : ∀ y ∈ l, y.f2.size ≤ 32000 ∧ y.f3.size ≤ 32000 := fun y hy => hz y (List.mem_cons_of_mem _ hy)
    have h2 : Room (2 * l.length + 2) s := h.le (by simp only [List.length_cons]; omega)
    have h3 := doS_room h2 (hz x List.mem_cons_self).1 (hz x List.mem_cons_self).2 (verS top i)
    unfold allS
    split
    · exact ih _ _ _ (h2.le (by omega)) hl
    · split
      · exact ih _ _ _ h3 hl
      · exact h3.le (by omega)
theorem room_len {m : Nat} {s : S24} (h : Room m s) : s.f0.length ≤ 1048576 ∧ s.f1.length ≤ 1048576 ∧ s.f2.length ≤ 1048576 := by
  have h1 := h.a.1
  have h2 := h.l.1
  have h3 := h.r.1
  exact ⟨by omega, by omega, by omega⟩
theorem planS_bad {s : S24} {inn : List ByteArray} (h : ¬ (checkS s = 0 ∧ mayS inn = true)) : planS s inn = ([], 2) := by
  unfold planS
  rw [if_neg h]
theorem planS_good {s : S24} {inn : List ByteArray} (h : checkS s = 0 ∧ mayS inn = true) : planS s inn = ((planF s inn).1, 0) := by
  unfold planS
  rw [if_pos h]
end Go.Proofs.YtjllbkeobibnkaaDoor.Q

namespace Go.Proofs.YtjllbkeobibnkaaDoor.Q
open Go Go.Proofs Go.RowKit Go.Proofs.YtjllbkeobibnkaaDoorK Go.Proofs.YtjllbkeobibnkaaDoorW.PrintWords Go.Proofs.YtjllbkeobibnkaaDoorW.PrintLast Go.Proofs.YtjllbkeobibnkaaDoorW.PrintMore
set_option linter.unusedSimpArgs false
set_option linter.unusedVariables false
def eqH (x y : S51) : Bool := x.f0 == y.f0 && (x.f1 == y.f1 && x.f2.l == y.f2.l)
def eqK (x y : S58) : Bool := x.f0.toList == y.f0.toList && eqH x.f1 y.f1
theorem A51_cut (x : S51) : ((A51 x).extract 2 34).toList = sumL x.f2 := by
  have h := sumL_len x.f2
  simp [A51, L51, List.extract]
  rw [List.take_of_length_le (by omega)]
theorem A58_cut (x : S58) : (A58 x).extract 1 35 = A51 x.f1 := by
  have h := L51_len x.f1
  apply Array.toList_inj.1
  simp [A58, L58, A51, List.extract]
  rw [List.take_of_length_le (by omega)]
theorem part49 (w : World) (xs : Array Value) : (part 49 xs 2).run Tryd.prog w = .ok (.agg (xs.extract 2 34)) w := by
  obtain ⟨i, hi, hs⟩ := Option.map_eq_some_iff.1 info49s
  unfold part isAgg
  simp [Sem.run_bind, run_underlying Tryd.underlying49, sizeOf, typeInfo, hi, hs]
theorem part51 (w : World) (xs : Array Value) : (part 51 xs 1).run Tryd.prog w = .ok (.agg (xs.extract 1 35)) w := by
  obtain ⟨i, hi, hs⟩ := Option.map_eq_some_iff.1 info51s
  unfold part isAgg
  simp [Sem.run_bind, run_underlying Tryd.underlying51, sizeOf, typeInfo, hi, hs]
attribute [local go_sem] A51_size A51_0 A51_1 A51_g0 A51_g1 A58_size A58_0 A58_1 A58_2 A58_g0 A58_g1 A58_g2 cell_held frozen_held
theorem eq51 (d : Nat) (w : World) (x y : S51) : (Op.equalIn (d + 3) 51 (.agg (A51 x)) (.agg (A51 y))).run Tryd.prog w = .ok (eqH x y) w := by
  obtain ⟨i0, hi⟩ := info5s
  refine eqA_of Tryd.underlying51 (by kernel_rfl) ?_
  refine eqf_cons (by rfl) (by go_simp; rfl) (by go_simp; rfl) (by go_simp) ?_
  refine eqf_cons (by rfl) (by go_simp; rfl) (by go_simp; rfl) (by go_simp) ?_
  exact eqf_last (by rfl) (part49 _ _) (part49 _ _) (eq_sum d Tryd.underlying49 Tryd.underlying5 (by kernel_rfl) hi _ _ x.f2 y.f2 (A51_cut x) (A51_cut y))
theorem eq58 (d : Nat) (w : World) (x y : S58) : (Op.equalIn (d + 4) 58 (.agg (A58 x)) (.agg (A58 y))).run Tryd.prog w = .ok (eqK x y) w := by
  refine eqA_of Tryd.underlying58 (by kernel_rfl) ?_
  refine eqf_cons (by rfl) (by go_simp; rfl) (by go_simp; rfl) (by go_simp) ?_
  exact eqf_last (by rfl) (part51 _ _) (part51 _ _) (by rw [A58_cut, A58_cut]; exact eq51 d w x.f1 y.f1)
theorem eqH_iff (x y : S51) : eqH x y = true ↔ x = y := by
  obtain ⟨x0, x1, x2⟩ := x
  obtain ⟨y0, y1, y2⟩ := y
  simp only [eqH, Bool.and_eq_true, beq_iff_eq, S51.mk.injEq]
  constructor
  · rintro ⟨h0, h1, h2⟩
    exact ⟨h0, h1, Sum.eq h2⟩
  · rintro ⟨rfl, rfl, rfl⟩
    exact ⟨rfl, rfl, rfl⟩
/-- A change lies at ad. -/
class Loads (W : World) (ad : Addr) (x : outParam S58) : Prop where
  out : At W ad (L58 x)
instance (W : World) (ad : Addr) (x : S58) [h : Loads W ad x] : Loads W.drew ad x := ⟨h.out⟩
instance (W : World) (n : Nat) (ad : Addr) (x : S58) [h : Loads W ad x] : Loads (W.drewN n) ad x := ⟨At_below h.out (pw_below_drewN (Below.refl _ _) n)⟩
theorem load58q {W : World} {ad : Addr} {x : S58} [h : Loads W ad x] : (lvx 58 ad).run Tryd.prog W = .ok (.agg (A58 x)) W :=
  run_loadVar_at h.out Tryd.underlying58 rfl (by rw [L58_len]; exact info58s)
attribute [local go_sem ↓] load58q
attribute [local go_sem high] eq58
end Go.Proofs.YtjllbkeobibnkaaDoor.Q
