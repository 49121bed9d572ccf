/-
What is proved: aquifer/aquiferlaw06.ScopeAgain answers true for every input, and leaves its arguments as they were.
-/
import Derived.Test.YtkflalaocnghcaaDoorZA3
import Derived.Test.YtkflalaocnghcaaDoorZA2
import Derived.Test.YtkflalaocnghcaaDoorZA1
import Derived.Test.YtkflalaocnghcaaDoorRows
import Derived.Test.YtkflalaocnghcaaDoorCards
import Derived.Test.YtkflalaocnghcaaDoorTie
import Derived.WalkKit
import Derived.ProofKit
import Derived.OpenShut
import Derived.ShutString
import Derived.ChangeOld
import Derived.Below
import Derived.SizedLaws
import Derived.LaidLaws
import Derived.LaidMore
import Derived.Lay
import Derived.SevenTiedAt
import Derived.Stop.Joined
namespace Go.Proofs.YtkflalaocnghcaaDoor.Q
open Go Go.Proofs Go.Shelf Go.RowKit Go.Lib Go.Sort Go.Proofs.YtkflalaocnghcaaDoorP Go.Proofs.YtkflalaocnghcaaDoorK Go.Proofs.YtkflalaocnghcaaDoorW.PrintWords Go.Proofs.YtkflalaocnghcaaDoorW.PrintLast Go.Proofs.YtkflalaocnghcaaDoorW.PrintMore
set_option linter.unusedSimpArgs false
set_option linter.unusedVariables false
/-! ### Directories of which none lies in another one -/
theorem lex_between {α : Type} {f : α → α → Int} (g : Go.Proofs.YtkflalaocnghcaaDoorP.Good f) : ∀ a b c : List α, a <+: c → ¬ 0 < lexC f a b → ¬ 0 < lexC f b c → a <+: b := by
  intro a
  induction a with
  | nil => intro b c _ _ _; exact List.nil_prefix
  | cons x a ih =>
    intro b c h h1 h2
    cases c with
    | nil => simp at h
    | cons z c =>
      obtain ⟨rfl, hac⟩ := List.cons_prefix_cons.1 h
      cases b with
      | nil => exact absurd (show 0 < lexC f (x :: a) [] by simp [lexC]) h1
      | cons y b =>
        simp only [lexC] at h1 h2
        by_cases e : f x y = 0
        · have ex := g.eq _ _ e
          subst ex
          rw [if_pos e] at h1
          rw [if_pos e] at h2
          exact List.cons_prefix_cons.2 ⟨rfl, ih b c hac h1 h2⟩
        · rw [if_neg e] at h1
          have hlt := g.lt x y
          have hlt2 := g.lt y x
          by_cases e2 : f y x = 0
          · have := g.eq _ _ e2
            subst this
            exact absurd (g.refl y) e
          · rw [if_neg e2] at h2
            omega
theorem lex_prefix {α : Type} {f : α → α → Int} (g : Go.Proofs.YtkflalaocnghcaaDoorP.Good f) : ∀ a c : List α, a <+: c → ¬ 0 < lexC f a c := by
  intro a
  induction a with
  | nil => intro c _; cases c <;> simp [lexC]
  | cons x a ih =>
    intro c h
    cases c with
    | nil => simp at h
    | cons z c =>
      obtain ⟨rfl, hac⟩ := List.cons_prefix_cons.1 h
      simp only [lexC]
      rw [if_pos (g.refl x)]
      exact ih c hac
theorem names_first {p : ByteArray} (h : isP p = true) (h0 : p.size ≠ 0) : ∃ c l ns, names p.data.toList = (c :: l) :: ns := by
  rcases (isP_open h).2 with ⟨e, _⟩ | ⟨_, _, hk⟩
  · exact absurd e h0
  · obtain ⟨_, hne, _⟩ := kindsL_some _ _ _ (names_ne _) hk
    cases hn : names p.data.toList with
    | nil => exact absurd hn (names_ne _)
    | cons n ns =>
      cases n with
      | nil => exact absurd rfl (hne [] (by rw [hn]; exact List.mem_cons_self))
      | cons c l => exact ⟨c, l, ns, rfl⟩
theorem names_root {p : ByteArray} (h0 : p.size = 0) : names p.data.toList = [[]] := by
  have e : p.data.toList = [] := List.eq_nil_of_length_eq_zero (by rw [dlen]; exact h0)
  rw [e]
  rfl
theorem pcmp_parts {x y : ByteArray} (hx : isP x = true) (hy : isP y = true) : pcmp x y = cmpN (parts x) (parts y) := by
  unfold pcmp parts
  by_cases h1 : x.size = 0
  · rw [if_pos h1, names_root h1]
    by_cases h2 : y.size = 0
    · rw [if_pos h2, names_root h2]; rfl
    · rw [if_neg h2]
      obtain ⟨c, l, ns, e⟩ := names_first hy h2
      rw [e]
      rfl
  · rw [if_neg h1]
    by_cases h2 : y.size = 0
    · rw [if_pos h2, names_root h2]
      obtain ⟨c, l, ns, e⟩ := names_first hx h1
      rw [e]
      rfl
    · rw [if_neg h2]
theorem leP_iff (x y : ByteArray) : leP x y ↔ ¬ 0 < pcmp x y := by
  unfold leP
  rw [good_path.lt]
theorem within_between {d y p : ByteArray} (hd : isD d) (hy : isP y = true) (hp : isP p = true) (h : withinS d p = true) (h1 : leP d y) (h2 : leP y p) : withinS d y = true := by
  rw [within_parts hd hp] at h
  rw [within_parts hd hy]
  rw [leP_iff, pcmp_parts hd.1 hy] at h1
  rw [leP_iff, pcmp_parts hy hp] at h2
  exact lex_between good_bytes _ _ _ h h1 h2
theorem within_le {d p : ByteArray} (hd : isD d) (hp : isP p = true) (h : withinS d p = true) : leP d p := by
  rw [within_parts hd hp] at h
  rw [leP_iff, pcmp_parts hd.1 hp]
  exact lex_prefix good_bytes _ _ h
theorem within_refl (d : ByteArray) : withinS d d = true := (within_iff d d).2 (.inl rfl)
theorem within_trans {a b c : ByteArray} (ha : isD a) (hb : isD b) (hc : isP c = true) (h1 : withinS a b = true) (h2 : withinS b c = true) : withinS a c = true := by
  rw [within_parts ha hb.1] at h1
  rw [within_parts hb hc] at h2
  rw [within_parts ha hc]
  exact h1.trans h2
theorem within_anti {a b : ByteArray} (ha : isD a) (hb : isD b) (h1 : withinS a b = true) (h2 : withinS b a = true) : a = b :=
  leP_anti (within_le ha hb.1 h1) (within_le hb ha.1 h2)
def cov (out : List ByteArray) (x : ByteArray) : Bool := out.any fun d => withinS d x
theorem cov_iff (out : List ByteArray) (x : ByteArray) : cov out x = true ↔ ∃ y ∈ out, withinS y x = true := List.any_eq_true
theorem cov_app (out : List ByteArray) (y x : ByteArray) : cov (out ++ [y]) x = (cov out x || withinS y x) := by
  unfold cov
  rw [List.any_append]
  simp
/-- One by one: what lies in none that is kept is kept. -/
def redC : List ByteArray → List ByteArray → List ByteArray
  | out, [] => out
  | out, x :: t => if cov out x = true then redC out t else redC (out ++ [x]) t
def Chain (m : List ByteArray) : Prop := m.Pairwise fun y q => leP y q ∧ ¬ withinS y q = true
structure Inv (pre out t : List ByteArray) : Prop where
  dirs : ∀ x ∈ pre ++ t, isD x
  sorted : (pre ++ t).Pairwise leP
  sub : ∀ y ∈ out, y ∈ pre
  covs : ∀ x ∈ pre, cov out x = true
  chain : Chain out
theorem Inv.skip {pre out t : List ByteArray} {x : ByteArray} (h : Inv pre out (x :: t)) (hc : cov out x = true) : Inv (pre ++ [x]) out t := by
  refine ⟨fun y hy => h.dirs y (by simpa using hy), by simpa using h.sorted, fun y hy => List.mem_append_left _ (h.sub y hy), fun y hy => ?_, h.chain⟩
  rcases List.mem_append.1 hy with hy | hy
  · exact h.covs y hy
  · rw [List.mem_singleton.1 hy]; exact hc
theorem Inv.le {pre out t : List ByteArray} {x : ByteArray} (h : Inv pre out (x :: t)) (y : ByteArray) (hy : y ∈ pre) : leP y x :=
  (List.pairwise_append.1 h.sorted).2.2 y hy x List.mem_cons_self
theorem Inv.add {pre out t : List ByteArray} {x : ByteArray} (h : Inv pre out (x :: t)) (hc : ¬ cov out x = true) : Inv (pre ++ [x]) (out ++ [x]) t := by
  refine ⟨fun y hy => h.dirs y (by simpa using hy), by simpa using h.sorted, fun y hy => ?_, fun y hy => ?_, ?_⟩
  · rcases List.mem_append.1 hy with hy | hy
    · exact List.mem_append_left _ (h.sub y hy)
    · exact List.mem_append_right _ hy
  · rw [cov_app]
    rcases List.mem_append.1 hy with hy | hy
    · rw [h.covs y hy]; rfl
    · rw [List.mem_singleton.1 hy, within_refl]; simp
  · refine List.pairwise_append.2 ⟨h.chain, List.pairwise_singleton _ _, fun y hy q hq => ?_⟩
    rw [List.mem_singleton.1 hq]
    exact ⟨h.le y (h.sub y hy), fun hw => hc ((cov_iff out x).2 ⟨y, hy, hw⟩)⟩
theorem Inv.addP {pre out t : List ByteArray} {x : ByteArray} (h : Inv pre out (x :: t)) : addP out x = if cov out x = true then out else out ++ [x] := by
  have hx : isD x := h.dirs x (by simp)
  rcases List.eq_nil_or_concat out with h0 | ⟨o, q, h0⟩
  · subst h0
    rfl
  · have hl : out.getLast? = some q := by rw [h0]; simp
    unfold Q.addP
    rw [hl]
    dsimp only
    by_cases hw : withinS q x = true
    · rw [if_pos hw, if_pos ((cov_iff out x).2 ⟨q, by rw [h0]; simp, hw⟩)]
    · rw [if_neg hw, if_neg]
      intro hc
      obtain ⟨y, hy, hyx⟩ := (cov_iff out x).1 hc
      have hq : q ∈ out := by rw [h0]; simp
      have hyo : y ∈ o ∨ y = q := by rw [h0] at hy; simpa using hy
      rcases hyo with hyo | e
      · have hch := h.chain
        unfold Chain at hch
        rw [h0, List.concat_eq_append] at hch
        have := (List.pairwise_append.1 hch).2.2 y hyo q (by simp)
        have dy : isD y := h.dirs y (List.mem_append_left _ (h.sub y hy))
        have dq : isD q := h.dirs q (List.mem_append_left _ (h.sub q hq))
        exact this.2 (within_between dy dq.1 hx.1 hyx this.1 (h.le q (h.sub q hq)))
      · exact hw (by rw [← e]; exact hyx)
theorem redA_redC (t : List ByteArray) : ∀ pre out, Inv pre out t → redA out t = redC out t := by
  induction t with
  | nil => intro pre out h; rfl
  | cons x t ih =>
    intro pre out h
    rw [redA, redC, h.addP]
    by_cases hc : cov out x = true
    · rw [if_pos hc, if_pos hc]; exact ih _ _ (h.skip hc)
    · rw [if_neg hc, if_neg hc]; exact ih _ _ (h.add hc)
def Dirs (l : List ByteArray) : Prop := ∀ x ∈ l, isD x
theorem inv_start {l : List ByteArray} (h : Dirs l) : Inv [] [] (sortP l) :=
  ⟨fun x hx => h x ((sortP_perm l).mem_iff.1 hx), sortP_sorted l, fun y hy => by simp at hy, fun x hx => by simp at hx, List.Pairwise.nil⟩
theorem reduce_redC {l : List ByteArray} (h : Dirs l) : reduceS l = redC [] (sortP l) := redA_redC _ _ _ (inv_start h)
theorem redC_inv (t : List ByteArray) : ∀ pre out, Inv pre out t → Inv (pre ++ t) (redC out t) [] := by
  induction t with
  | nil => intro pre out h; simpa [redC] using h
  | cons x t ih =>
    intro pre out h
    rw [redC]
    by_cases hc : cov out x = true
    · rw [if_pos hc]; have := ih _ _ (h.skip hc); simpa using this
    · rw [if_neg hc]; have := ih _ _ (h.add hc); simpa using this
/-- What a scope is made of. -/
theorem reduce_spec {l : List ByteArray} (h : Dirs l) : (∀ y ∈ reduceS l, y ∈ l) ∧ (∀ x ∈ l, cov (reduceS l) x = true) ∧ Chain (reduceS l) := by
  have hi := redC_inv _ _ _ (inv_start h)
  rw [← reduce_redC h, List.nil_append] at hi
  exact ⟨fun y hy => (sortP_perm l).mem_iff.1 (hi.sub y hy), fun x hx => hi.covs x ((sortP_perm l).mem_iff.2 hx), hi.chain⟩
theorem chain_one {m : List ByteArray} (hd : Dirs m) (h : Chain m) : ∀ y ∈ m, ∀ q ∈ m, withinS y q = true → y = q := by
  have hp : m.Pairwise fun y q => ¬ withinS y q = true ∧ ¬ withinS q y = true := by
    induction m with
    | nil => exact List.Pairwise.nil
    | cons a m ih =>
      unfold Chain at h
      rw [List.pairwise_cons] at h ⊢
      refine ⟨fun q hq => ⟨(h.1 q hq).2, fun hw => ?_⟩, ih (fun x hx => hd x (List.mem_cons_of_mem _ hx)) h.2⟩
      have dq := hd q (List.mem_cons_of_mem _ hq)
      have da := hd a List.mem_cons_self
      have := leP_anti (within_le dq da.1 hw) (h.1 q hq).1
      exact (h.1 q hq).2 (by rw [this]; exact within_refl _)
  intro y hy q hq hw
  by_cases e : y = q
  · exact e
  · exact absurd hw (List.Pairwise.forall_of_forall_of_flip (R := fun y q => y ≠ q → ¬ withinS y q = true) (fun x _ hx => absurd rfl hx) (hp.imp fun h _ => h.1) (hp.imp fun h _ => h.2) hy hq e)
theorem chain_nodup {m : List ByteArray} (h : Chain m) : m.Nodup := h.imp fun h e => h.2 (by rw [e]; exact within_refl _)
theorem chain_sorted {m : List ByteArray} (h : Chain m) : m.Pairwise leP := h.imp fun h => h.1
theorem chain_ext {m n : List ByteArray} (hm : Chain m) (hn : Chain n) (h : ∀ x, x ∈ m ↔ x ∈ n) : m = n :=
  perm_sorted leP (fun a b h1 h2 => leP_anti h1 h2) m n ((List.perm_ext_iff_of_nodup (chain_nodup hm) (chain_nodup hn)).2 h) (chain_sorted hm) (chain_sorted hn) (fun a _ => leP_refl a)
/-- There is one such list. -/
theorem reduce_one {l m : List ByteArray} (hl : Dirs l) (hm : Chain m) (h1 : ∀ y ∈ m, y ∈ l) (h2 : ∀ x ∈ l, cov m x = true) : reduceS l = m := by
  obtain ⟨s1, s2, s3⟩ := reduce_spec hl
  have dm : Dirs m := fun x hx => hl x (h1 x hx)
  have dr : Dirs (reduceS l) := fun x hx => hl x (s1 x hx)
  refine chain_ext s3 hm (fun x => ⟨fun hx => ?_, fun hx => ?_⟩)
  · obtain ⟨y, hy, hyx⟩ := (cov_iff _ _).1 (h2 x (s1 x hx))
    obtain ⟨z, hz, hzy⟩ := (cov_iff _ _).1 (s2 y (h1 y hy))
    have hzx := chain_one dr s3 z hz x hx (within_trans (dr z hz) (dm y hy) (dr x hx).1 hzy hyx)
    subst hzx
    rw [within_anti (dr z hx) (dm y hy) hzy hyx]
    exact hy
  · obtain ⟨y, hy, hyx⟩ := (cov_iff _ _).1 (s2 x (h1 x hx))
    obtain ⟨z, hz, hzy⟩ := (cov_iff _ _).1 (h2 y (s1 y hy))
    have hzx := chain_one dm hm z hz x hx (within_trans (dm z hz) (dr y hy) (dm x hx).1 hzy hyx)
    subst hzx
    rw [within_anti (dm z hx) (dr y hy) hzy hyx]
    exact hy
theorem reduce_set {l m : List ByteArray} (hl : Dirs l) (h : ∀ x, x ∈ l ↔ x ∈ m) : reduceS l = reduceS m := by
  have hm : Dirs m := fun x hx => hl x ((h x).2 hx)
  obtain ⟨s1, s2, s3⟩ := reduce_spec hm
  exact reduce_one hl s3 (fun y hy => (h y).2 (s1 y hy)) (fun x hx => s2 x ((h x).1 hx))
theorem dir_iff (p : ByteArray) : dirS p = 0 ↔ isD p := by
  unfold dirS isD
  constructor
  · intro h
    by_cases hc : (kindS p).2 = 0 ∧ (kindS p).1 = 2
    · rw [if_pos hc] at h; exact absurd h (by decide)
    · rw [if_neg hc] at h
      have hp : isP p = true := by unfold isP; rw [h]; rfl
      exact ⟨hp, (isP_kind hp).resolve_right (fun h2 => hc ⟨h, h2⟩)⟩
  · rintro ⟨hp, h1⟩
    have h2 : (kindS p).2 = 0 := by unfold isP at hp; exact beq_iff_eq.1 hp
    rw [if_neg (fun hc => by rw [h1] at hc; exact absurd hc.2 (by decide)), h2]
theorem find_dirs (l : List ByteArray) : l.find? (fun p => dirS p != 0) = none ↔ Dirs l := by
  rw [List.find?_eq_none]
  constructor
  · intro h x hx
    have := h x hx
    exact (dir_iff x).1 (by simpa using this)
  · intro h x hx
    have := (dir_iff x).2 (h x hx)
    simp [this]
/-! ### The document's reduce -/
def bestU (out : List ByteArray) : Option ByteArray → List ByteArray → Option ByteArray
  | b, [] => b
  | b, x :: l => if cov out x = true then bestU out b l else match b with
    | none => bestU out (some x) l
    | some m => if pcmp x m < 0 then bestU out (some x) l else bestU out (some m) l
theorem bestU_cons (out : List ByteArray) (b : Option ByteArray) (x : ByteArray) (l : List ByteArray) : bestU out b (x :: l) = if cov out x = true then bestU out b l else match b with | none => bestU out (some x) l | some m => if pcmp x m < 0 then bestU out (some x) l else bestU out (some m) l := by cases b <;> rfl
theorem hasS_cov {out : List ByteArray} {x : ByteArray} (h : isP x = true) : hasS out x = cov out x := by unfold hasS cov; rw [h]; rfl
theorem best_loop (l out : List ByteArray) (hl : shortP l = true) (ho : shortP out = true) (hd : Dirs l) (ho2 : out.length < 100000) (d : Nat) : ∀ (i k : Nat) (b : Option ByteArray), i + d = l.length → 1000 + out.length < k → (∀ m, b = some m → isP m = true) →
    aquiferref06_reduce.l1 (k + d + 1) l out b.isSome (b.getD ⟨#[]⟩) (i : Int) = match bestU out b (l.drop i) with
      | none => some out
      | some m => aquiferref06_reduce.l0 k l (out ++ [m]) := by
  obtain ⟨hll, hm⟩ := shortP_mem hl
  induction d with
  | zero =>
    intro i k b h hk hb
    unfold aquiferref06_reduce.l1
    rw [if_neg (by omega), List.drop_of_length_le (by omega)]
    cases b with
    | none => rfl
    | some m =>
      simp only [bestU, Option.isSome_some, Option.getD_some, if_true]
      rw [if_pos (by omega)]
  | succ d ih =>
    intro i k b h hk hb
    have hi : i < l.length := by omega
    have hx := hd _ (List.getElem_mem hi)
    have hxs := (isP_open hx.1).1
    rw [show k + (d + 1) + 1 = (k + d + 1) + 1 by omega]
    unfold aquiferref06_reduce.l1
    rw [if_pos (by omega), if_pos (by omega), rdB l i hi, refhas out _ ho (by omega) _ (by omega), Option.bind_some, wr1 i (by omega), List.drop_eq_getElem_cons hi, hasS_cov hx.1]
    rw [bestU_cons]
    by_cases hc : cov out l[i] = true
    · rw [if_pos hc, if_pos hc]
      exact ih (i + 1) k b (by omega) hk hb
    · rw [if_neg hc, if_neg hc]
      have i1 := ih (i + 1) k (some l[i]) (by omega) hk (fun m hm => by cases hm; exact hx.1)
      cases b with
      | none =>
        simp only [Option.isSome_none]
        rw [if_neg (by decide)]
        exact i1
      | some m =>
        have hms := (isP_open (hb m rfl)).1
        simp only [Option.isSome_some, Option.getD_some, if_true]
        rw [refcompare _ m (by omega) (by omega) _ (by omega) (by omega), Option.bind_some]
        by_cases hlt : pcmp l[i] m < 0
        · rw [if_pos hlt, if_pos hlt]
          exact i1
        · rw [if_neg hlt, if_neg hlt]
          exact ih (i + 1) k (some m) (by omega) hk hb
theorem bestU_spec (out : List ByteArray) (l : List ByteArray) : ∀ b, (∀ m, b = some m → ¬ cov out m = true) → match bestU out b l with
    | none => b = none ∧ ∀ x ∈ l, cov out x = true
    | some m => ¬ cov out m = true ∧ (m ∈ l ∨ b = some m) ∧ (∀ x ∈ l, ¬ cov out x = true → leP m x) ∧ (∀ y, b = some y → leP m y) := by
  induction l with
  | nil =>
    intro b hb
    cases b with
    | none => exact ⟨rfl, fun x hx => by simp at hx⟩
    | some m => exact ⟨hb m rfl, .inr rfl, fun x hx => by simp at hx, fun y hy => by cases hy; exact leP_refl _⟩
  | cons x l ih =>
    intro b hb
    rw [bestU_cons]
    by_cases hc : cov out x = true
    · rw [if_pos hc]
      have := ih b hb
      cases hbu : bestU out b l with
      | none =>
        rw [hbu] at this
        exact ⟨this.1, fun y hy => (List.mem_cons.1 hy).elim (fun e => by rw [e]; exact hc) (this.2 y)⟩
      | some m =>
        rw [hbu] at this
        exact ⟨this.1, this.2.1.imp_left (List.mem_cons_of_mem _), fun y hy hn => (List.mem_cons.1 hy).elim (fun e => absurd (by rw [e]; exact hc) hn) (fun h => this.2.2.1 y h hn), this.2.2.2⟩
    · rw [if_neg hc]
      have hx1 := ih (some x) (fun m hm => by cases hm; exact hc)
      have hfin : ∀ b', (∀ y, b' = some y → leP x y) → match bestU out (some x) l with
          | none => b' = none ∧ ∀ x_1 ∈ x :: l, cov out x_1 = true
          | some m => ¬ cov out m = true ∧ (m ∈ x :: l ∨ b' = some m) ∧ (∀ x_1 ∈ x :: l, ¬ cov out x_1 = true → leP m x_1) ∧ (∀ y, b' = some y → leP m y) := by
        intro b' hb'
        cases hbu : bestU out (some x) l with
        | none => rw [hbu] at hx1; exact absurd hx1.1 (by simp)
        | some m =>
          rw [hbu] at hx1
          have hmx := hx1.2.2.2 x rfl
          refine ⟨hx1.1, .inl (hx1.2.1.elim (List.mem_cons_of_mem _) (fun e => by cases e; exact List.mem_cons_self)), fun y hy hn => (List.mem_cons.1 hy).elim (fun e => by rw [e]; exact hmx) (fun h => hx1.2.2.1 y h hn), fun y hy => leP_trans hmx (hb' y hy)⟩
      cases b with
      | none => exact hfin none (fun y hy => by cases hy)
      | some z =>
        dsimp only
        by_cases hlt : pcmp x z < 0
        · rw [if_pos hlt]
          exact hfin (some z) (fun y hy => by
            cases hy
            unfold leP
            have := good_path.lt x z
            have h2 := good_path.lt z x
            omega)
        · rw [if_neg hlt]
          have := ih (some z) hb
          cases hbu : bestU out (some z) l with
          | none => rw [hbu] at this; exact absurd this.1 (by simp)
          | some m =>
            rw [hbu] at this
            have hmz := this.2.2.2 z rfl
            exact ⟨this.1, this.2.1.imp_left (List.mem_cons_of_mem _), fun y hy hn => (List.mem_cons.1 hy).elim (fun e => by rw [e]; exact leP_trans hmz hlt) (fun h => this.2.2.1 y h hn), this.2.2.2⟩
theorem red_loop (l : List ByteArray) (hl : shortP l = true) (hd : Dirs l) (hln : l.length ≤ 2000) (t : List ByteArray) : ∀ (pre out : List ByteArray) (k : Nat), Inv pre out t → (∀ x, x ∈ l ↔ x ∈ pre ++ t) → out.length + t.length ≤ 2000 → shortP out = true → (l.length + 3) * (t.length + 1) + 5000 ≤ k → aquiferref06_reduce.l0 k l out = some (redC out t) := by
  induction t with
  | nil =>
    intro pre out k hi hmem hlen ho hk
    obtain ⟨k, rfl⟩ : ∃ q, k = q + l.length + 1 + 1 := ⟨k - l.length - 2, by simp at hk; omega⟩
    unfold aquiferref06_reduce.l0
    have hb := best_loop l out hl ho hd (by omega) l.length 0 k none (by omega) (by simp at hk hlen; omega) (fun m hm => by cases hm)
    have hs := bestU_spec out l none (fun m hm => by cases hm)
    simp only [Option.isSome_none, Option.getD_none, Int.natCast_zero, List.drop_zero] at hb
    rw [hb]
    cases hbu : bestU out none l with
    | none => rfl
    | some m =>
      rw [hbu] at hs
      have hm : m ∈ l := hs.2.1.resolve_right (by simp)
      exact absurd (hi.covs m (by simpa using (hmem m).1 hm)) hs.1
  | cons x t ih =>
    intro pre out k hi hmem hlen ho hk
    rw [redC]
    by_cases hc : cov out x = true
    · rw [if_pos hc]
      exact ih (pre ++ [x]) out k (hi.skip hc) (fun y => by rw [hmem y]; simp) (by simp at hlen ⊢; omega) ho (by rw [List.length_cons, Nat.mul_succ] at hk; omega)
    · rw [if_neg hc]
      rw [List.length_cons, Nat.mul_succ] at hk
      obtain ⟨k, rfl⟩ : ∃ q, k = q + l.length + 1 + 1 := ⟨k - l.length - 2, by omega⟩
      unfold aquiferref06_reduce.l0
      have hb := best_loop l out hl ho hd (by omega) l.length 0 k none (by omega) (by simp at hlen; omega) (fun m hm => by cases hm)
      have hs := bestU_spec out l none (fun m hm => by cases hm)
      simp only [Option.isSome_none, Option.getD_none, Int.natCast_zero, List.drop_zero] at hb
      rw [hb]
      have hxl : x ∈ l := (hmem x).2 (by simp)
      cases hbu : bestU out none l with
      | none => rw [hbu] at hs; exact absurd (hs.2 x hxl) hc
      | some m =>
        rw [hbu] at hs
        have hml : m ∈ l := hs.2.1.resolve_right (by simp)
        have hmt : m ∈ x :: t := by
          rcases List.mem_append.1 ((hmem m).1 hml) with h | h
          · exact absurd (hi.covs m h) hs.1
          · exact h
        have hxm : leP x m := by
          rcases List.mem_cons.1 hmt with e | h
          · rw [e]; exact leP_refl _
          · exact (List.pairwise_cons.1 (List.pairwise_append.1 hi.sorted).2.1).1 m h
        have : m = x := leP_anti (hs.2.2.1 x hxl hc) hxm
        subst this
        dsimp only
        refine ih (pre ++ [m]) (out ++ [m]) k (hi.add hc) (fun y => by rw [hmem y]; simp) (by simp at hlen ⊢; omega) (shortP_app ho (shortP_mk (by simp) (fun p hp => by rw [List.mem_singleton.1 hp]; exact (shortP_mem hl).2 m hxl)) (by simp at hlen ⊢; omega)) (by omega)
theorem refreduce {l : List ByteArray} (hl : shortP l = true) (hd : Dirs l) (hln : l.length ≤ 2000) (k : Nat) (hk : (l.length + 3) * (l.length + 1) + 5000 ≤ k) : aquiferref06_reduce.f k l = some (reduceS l) := by
  unfold aquiferref06_reduce.f
  rw [reduce_redC hd]
  exact red_loop l hl hd hln (sortP l) [] [] k (inv_start hd) (fun x => by rw [List.nil_append]; exact (sortP_perm l).mem_iff.symm) (by rw [(sortP_perm l).length_eq]; simp; omega) rfl (by rw [(sortP_perm l).length_eq]; exact hk)
end Go.Proofs.YtkflalaocnghcaaDoor.Q

namespace Go.Proofs.YtkflalaocnghcaaDoor.Q
open Go Go.Proofs Go.Shelf Go.RowKit Go.Lib Go.Sort Go.Proofs.YtkflalaocnghcaaDoorP Go.Proofs.YtkflalaocnghcaaDoorK Go.Proofs.YtkflalaocnghcaaDoorW.PrintWords Go.Proofs.YtkflalaocnghcaaDoorW.PrintLast Go.Proofs.YtkflalaocnghcaaDoorW.PrintMore
set_option linter.unusedSimpArgs false
set_option linter.unusedVariables false
/-! ### The document's Make, May; the law's own words -/
theorem make_ref_loop (l : List ByteArray) (hs : shortP l = true) (hln : l.length ≤ 2000) (d : Nat) : ∀ (i k : Nat), i + d = l.length → (∀ x ∈ l.take i, isD x) → (l.length + 3) * (l.length + 1) + 5000 + d < k → aquiferref06_Make.l0 k l (i : Int) = some (match (l.drop i).find? (fun p => dirS p != 0) with
  | some p => ([], dirS p)
  | none => if 16 < (reduceS l).length then ([], 7) else (reduceS l, 0)) := by
  obtain ⟨hl, hm⟩ := shortP_mem hs
  induction d with
  | zero =>
    intro i k h hd hk
    obtain ⟨k, rfl⟩ : ∃ q, k = q + 1 := ⟨k - 1, by omega⟩
    have hdl : Dirs l := by rw [List.take_of_length_le (by omega)] at hd; exact hd
    unfold aquiferref06_Make.l0
    rw [if_neg (by omega), List.drop_of_length_le (by omega), refreduce hs hdl hln k (by omega), Option.bind_some, List.find?_nil]
    dsimp only
    by_cases h16 : 16 < (reduceS l).length
    · rw [if_pos (by omega), if_pos h16]
    · rw [if_neg (by omega), if_neg h16]
  | succ d ih =>
    intro i k h hd hk
    obtain ⟨k, rfl⟩ : ∃ q, k = q + 1 := ⟨k - 1, by omega⟩
    have hi : i < l.length := by omega
    unfold aquiferref06_Make.l0
    rw [if_pos (by omega), if_pos (by omega), rdB l i hi, refdir _ (hm _ (List.getElem_mem hi)) k (by omega), Option.bind_some, List.drop_eq_getElem_cons hi, List.find?_cons, wr1 i (by omega)]
    by_cases h0 : dirS l[i] = 0
    · rw [if_pos h0, ih (i + 1) k (by omega) (fun x hx => by
        rw [List.take_succ_eq_append_getElem hi] at hx
        rcases List.mem_append.1 hx with hx | hx
        · exact hd x hx
        · rw [List.mem_singleton.1 hx]; exact (dir_iff _).1 h0) (by omega)]
      simp [h0]
    · rw [if_neg h0]
      have : (dirS l[i] != 0) = true := bne_iff_ne.mpr h0
      rw [this]
theorem refmake {l : List ByteArray} (hs : shortP l = true) (hln : l.length ≤ 2000) (k : Nat) (hk : (l.length + 3) * (l.length + 1) + 8000 ≤ k) : aquiferref06_Make.f k l = some (makeS l) := by
  have h := make_ref_loop l hs hln l.length 0 k (by omega) (by simp) (by omega)
  rw [List.drop_zero] at h
  unfold aquiferref06_Make.f makeS
  exact h
theorem same_loop (a b : List ByteArray) (hl : a.length = b.length) (hb : a.length ≤ 100000) (d : Nat) : ∀ (i k : Nat), i + d = a.length → d < k → ∃ r, aquiferref05_SameTexts.l0 k a b (i : Int) = some r ∧ (r = true ↔ a.drop i = b.drop i) := by
  induction d with
  | zero =>
    intro i k h hk
    obtain ⟨k, rfl⟩ : ∃ q, k = q + 1 := ⟨k - 1, by omega⟩
    unfold aquiferref05_SameTexts.l0
    rw [if_neg (by omega), List.drop_of_length_le (by omega), List.drop_of_length_le (by omega)]
    exact ⟨true, rfl, by simp⟩
  | succ d ih =>
    intro i k h hk
    obtain ⟨k, rfl⟩ : ∃ q, k = q + 1 := ⟨k - 1, by omega⟩
    have hi : i < a.length := by omega
    have hj : i < b.length := by omega
    unfold aquiferref05_SameTexts.l0
    rw [if_pos (by omega), if_pos (by omega), if_pos (by omega), rdB a i hi, rdB b i hj, wr1 i (by omega), List.drop_eq_getElem_cons hi, List.drop_eq_getElem_cons hj]
    by_cases he : a[i].toList = b[i].toList
    · rw [if_pos he]
      obtain ⟨r, h1, h2⟩ := ih (i + 1) k (by omega) (by omega)
      exact ⟨r, h1, h2.trans ⟨fun h => by rw [(tlB _ _).1 he, h], fun h => (List.cons.inj h).2⟩⟩
    · rw [if_neg he]
      exact ⟨false, rfl, by
        constructor
        · intro h; cases h
        · intro h; exact absurd ((tlB _ _).2 (List.cons.inj h).1) he⟩
theorem refsame (a b : List ByteArray) (hb : a.length ≤ 100000) (k : Nat) (hk : a.length < k) : ∃ r, aquiferref05_SameTexts.f k a b = some r ∧ (r = true ↔ a = b) := by
  unfold aquiferref05_SameTexts.f
  by_cases hl : a.length = b.length
  · rw [if_pos (by omega)]
    have := same_loop a b hl hb a.length 0 k (by omega) hk
    simpa using this
  · rw [if_neg (by omega)]
    exact ⟨false, rfl, by
      constructor
      · intro h; cases h
      · intro h; exact absurd (by rw [h]) hl⟩
theorem same_refl (a : List ByteArray) (hb : a.length ≤ 100000) (k : Nat) (hk : a.length < k) : aquiferref05_SameTexts.f k a a = some true := by
  obtain ⟨r, h1, h2⟩ := refsame a a hb k hk
  rw [h1, h2.2 rfl]
/-! ### May: what it says of a list -/
theorem may_chain (l : List ByteArray) : ∀ q, isD q → mayA (some q) l = true → Dirs l ∧ Chain l ∧ ∀ x ∈ l, leP q x ∧ ¬ withinS q x = true := by
  induction l with
  | nil => intro q _ _; exact ⟨fun x hx => by simp at hx, List.Pairwise.nil, fun x hx => by simp at hx⟩
  | cons p l ih =>
    intro q hq h
    simp only [mayA, Bool.and_eq_true, beq_iff_eq, decide_eq_true_eq, Bool.not_eq_true'] at h
    obtain ⟨h0, h1, h2, h3⟩ := h
    have dp := (dir_iff p).1 h0
    obtain ⟨i1, i2, i3⟩ := ih p dp h3
    have hqp : leP q p := by rw [leP_iff]; omega
    have hnp : ¬ withinS q p = true := by rw [h2]; decide
    refine ⟨fun x hx => (List.mem_cons.1 hx).elim (fun e => by rw [e]; exact dp) (i1 x), List.pairwise_cons.2 ⟨i3, i2⟩, fun x hx => ?_⟩
    rcases List.mem_cons.1 hx with e | hx
    · rw [e]; exact ⟨hqp, hnp⟩
    · exact ⟨leP_trans hqp (i3 x hx).1, fun hw => hnp (within_between hq dp.1 (i1 x hx).1 hw hqp (i3 x hx).1)⟩
theorem mayA_chain (l : List ByteArray) (h : mayA none l = true) : Dirs l ∧ Chain l := by
  cases l with
  | nil => exact ⟨fun x hx => by simp at hx, List.Pairwise.nil⟩
  | cons p l =>
    simp only [mayA, Bool.and_eq_true, beq_iff_eq] at h
    have dp := (dir_iff p).1 h.1
    obtain ⟨i1, i2, i3⟩ := may_chain l p dp h.2
    exact ⟨fun x hx => (List.mem_cons.1 hx).elim (fun e => by rw [e]; exact dp) (i1 x), List.pairwise_cons.2 ⟨i3, i2⟩⟩
theorem chain_mayA (l : List ByteArray) : ∀ q : Option ByteArray, Dirs l → Chain l → (∀ y, q = some y → ∀ x ∈ l, leP y x ∧ ¬ withinS y x = true) → mayA q l = true := by
  induction l with
  | nil => intro q _ _ _; cases q <;> rfl
  | cons p l ih =>
    intro q hd hc hq
    unfold Chain at hc
    rw [List.pairwise_cons] at hc
    have h0 := (dir_iff p).2 (hd p List.mem_cons_self)
    have hr := ih (some p) (fun x hx => hd x (List.mem_cons_of_mem _ hx)) hc.2 (fun y hy x hx => by cases hy; exact hc.1 x hx)
    cases q with
    | none => simp only [mayA, h0, hr]; rfl
    | some y =>
      have h1 := hq y rfl p List.mem_cons_self
      have h2 : pcmp y p < 0 := by
        have a := (leP_iff y p).1 h1.1
        have b : pcmp y p ≠ 0 := fun e => h1.2 (by rw [good_path.eq _ _ e]; exact within_refl _)
        omega
      simp only [mayA, h0, hr, decide_eq_true h2, Bool.eq_false_iff.2 h1.2]
      rfl
theorem may_open {l : List ByteArray} (h : mayS l = true) : Dirs l ∧ Chain l ∧ l.length ≤ 16 := by
  have hl := may_len h
  unfold mayS at h
  rw [Bool.and_eq_true] at h
  exact ⟨(mayA_chain l h.1).1, (mayA_chain l h.1).2, hl⟩
theorem may_mk {l : List ByteArray} (hd : Dirs l) (hc : Chain l) (hl : l.length ≤ 16) : mayS l = true := by
  unfold mayS
  rw [chain_mayA l none hd hc (fun y hy => by cases hy), decide_eq_true hl]
  rfl
theorem chain_cov (l : List ByteArray) : ∀ x ∈ l, cov l x = true := fun x hx => (cov_iff l x).2 ⟨x, hx, within_refl x⟩
theorem reduce_self {l : List ByteArray} (hd : Dirs l) (hc : Chain l) : reduceS l = l := reduce_one hd hc (fun _ h => h) (chain_cov l)
theorem make_dirs {l : List ByteArray} (hd : Dirs l) : makeS l = if 16 < (reduceS l).length then ([], 7) else (reduceS l, 0) := by
  unfold makeS
  rw [(find_dirs l).2 hd]
theorem make_may {l : List ByteArray} (h : mayS l = true) : makeS l = (l, 0) := by
  obtain ⟨hd, hc, hl⟩ := may_open h
  rw [make_dirs hd, reduce_self hd hc, if_neg (by omega)]
/-- What Make made. -/
theorem make_ok {l : List ByteArray} (h : (makeS l).2 = 0) : Dirs l ∧ (makeS l).1 = reduceS l ∧ mayS (reduceS l) = true := by
  have hd : Dirs l := by
    rw [← find_dirs]
    cases hf : l.find? (fun p => dirS p != 0) with
    | none => rfl
    | some p =>
      have := List.find?_some hf
      unfold makeS at h
      rw [hf] at h
      simp only [bne_iff_ne] at this
      exact absurd h this
  rw [make_dirs hd] at h ⊢
  by_cases h16 : 16 < (reduceS l).length
  · rw [if_pos h16] at h; exact absurd h (by decide)
  · rw [if_neg h16]
    obtain ⟨s1, _, s3⟩ := reduce_spec hd
    exact ⟨hd, rfl, may_mk (fun x hx => hd x (s1 x hx)) s3 (by omega)⟩
theorem makeS_len (l : List ByteArray) : (makeS l).1.length ≤ l.length := by
  unfold makeS
  have := reduceS_len l
  split
  · exact Nat.zero_le _
  · split
    · exact Nat.zero_le _
    · exact this
theorem refmay {l : List ByteArray} (hs : shortP l = true) (hln : l.length ≤ 2000) (k : Nat) (hk : (l.length + 3) * (l.length + 1) + 8000 ≤ k) : aquiferref06_May.f k l = some (mayS l) := by
  unfold aquiferref06_May.f
  rw [refmake hs hln k hk, Option.bind_some]
  obtain ⟨r, h1, h2⟩ := refsame (makeS l).1 l (by have := makeS_len l; omega) k (by have := makeS_len l; omega)
  by_cases h0 : (makeS l).2 = 0
  · rw [if_pos h0, h1, Option.bind_some]
    congr 1
    rw [Bool.eq_iff_iff, h2]
    constructor
    · intro e
      obtain ⟨_, m1, m2⟩ := make_ok h0
      rw [m1] at e
      rw [e] at m2
      exact m2
    · intro hm; rw [make_may hm]
  · rw [if_neg h0]
    congr 1
    symm
    exact Bool.eq_false_iff.2 (fun hm => h0 (by rw [make_may hm]))
/-! ### few, works -/
def fewP (l : List ByteArray) : List ByteArray := (l.take 20).map fun p => p.extract 0 (mn (p.size : Int) 150).toNat
theorem mn_150 (n : Nat) (m : Int) (hm : 0 ≤ m) : 0 ≤ mn (n : Int) m ∧ mn (n : Int) m ≤ (n : Int) ∧ mn (n : Int) m ≤ m := by unfold mn; split <;> omega
theorem cut_size (p : ByteArray) (m : Int) (hm : 0 ≤ m) : ((p.extract 0 (mn (p.size : Int) m).toNat).size : Int) ≤ m := by
  rw [ByteArray.size_extract]
  have := mn_150 p.size m hm
  omega
theorem cut_same (p : ByteArray) (h : p.size ≤ 150) : p.extract 0 (mn (p.size : Int) 150).toNat = p := by
  have h1 : mn (p.size : Int) 150 = (p.size : Int) := by unfold mn; rw [if_neg (by omega)]
  rw [h1, Int.toNat_natCast]
  apply ByteArray.ext
  simp
theorem few_loop (l : List ByteArray) (d : Nat) : ∀ (i k : Nat) (out : List ByteArray), i + d = min l.length 20 → d < k → out.length ≤ i → aquiferlaw06_few.l0 k l out (i : Int) = some (out ++ fewP (l.drop i |>.take (20 - i))) := by
  induction d with
  | zero =>
    intro i k out h hk ho
    obtain ⟨k, rfl⟩ : ∃ q, k = q + 1 := ⟨k - 1, by omega⟩
    unfold aquiferlaw06_few.l0
    by_cases hl : i < l.length
    · rw [if_pos (by omega), if_neg (by omega)]
      have : 20 - i = 0 := by omega
      rw [this, List.take_zero]
      simp [fewP]
    · rw [if_neg (by omega), List.drop_of_length_le (by omega)]
      simp [fewP]
  | succ d ih =>
    intro i k out h hk ho
    obtain ⟨k, rfl⟩ : ∃ q, k = q + 1 := ⟨k - 1, by omega⟩
    have hi : i < l.length := by omega
    have hm := mn_150 l[i].size 150 (by decide)
    unfold aquiferlaw06_few.l0
    rw [if_pos (by omega), if_pos (by omega), if_pos (by omega), rdB l i hi, if_pos hm.1, if_pos hm.2.1, if_pos (by omega), wr1 i (by omega), ih (i + 1) k _ (by omega) (by omega) (by simp; omega), List.drop_eq_getElem_cons hi, show 20 - i = (20 - (i + 1)) + 1 by omega, List.take_succ_cons]
    have e : ∀ (x : ByteArray) (m : List ByteArray), m.length < 20 → fewP (x :: m) = x.extract 0 (mn (x.size : Int) 150).toNat :: fewP m := by
      intro x m hm
      unfold fewP
      rw [List.take_of_length_le (by simp; omega), List.take_of_length_le (by omega), List.map_cons]
    rw [e _ _ (by rw [List.length_take]; omega), List.append_assoc]
    rfl
theorem few_fn (l : List ByteArray) (k : Nat) (hk : 21 ≤ k) : aquiferlaw06_few.f k l = some (fewP l) := by
  have h := few_loop l (min l.length 20) 0 k [] (by omega) (by omega) (Nat.le_refl _)
  unfold aquiferlaw06_few.f
  have e : fewP (l.take 20) = fewP l := by unfold fewP; rw [List.take_take, Nat.min_self]
  rw [List.drop_zero, List.nil_append, Nat.sub_zero, e] at h
  exact h
theorem few_len (l : List ByteArray) : (fewP l).length ≤ 20 := by
  unfold fewP
  rw [List.length_map, List.length_take]
  omega
theorem few_size (l : List ByteArray) : ∀ p ∈ fewP l, p.size ≤ 150 := by
  intro p hp
  unfold fewP at hp
  obtain ⟨x, _, rfl⟩ := List.mem_map.1 hp
  have := cut_size x 150 (by decide)
  omega
theorem few_short (l : List ByteArray) : shortP (fewP l) = true := shortP_mk (by have := few_len l; omega) (fun p hp => by have := few_size l p hp; omega)
theorem few_few (l : List ByteArray) : fewP (fewP l) = fewP l := by
  have h1 := few_len l
  have h2 := few_size l
  generalize fewP l = m at h1 h2
  unfold fewP
  rw [List.take_of_length_le h1]
  have : m.map (fun p => p.extract 0 (mn (p.size : Int) 150).toNat) = m.map id := List.map_congr_left (fun p hp => cut_same p (h2 p hp))
  rw [this, List.map_id]
theorem works_60 : aquiferlaw06_works.f 60 = some true := by decide +kernel
theorem works_fn (k : Nat) (hk : 60 ≤ k) : aquiferlaw06_works.f k = some true := at_rounds (aquiferlaw06_works.mono) hk works_60
end Go.Proofs.YtkflalaocnghcaaDoor.Q

namespace Go.Proofs.YtkflalaocnghcaaDoor.Q
open Go.RowKit Go.Proofs.YtkflalaocnghcaaDoorW.PrintWords Go.Proofs.YtkflalaocnghcaaDoorW.PrintLast Go.Proofs.YtkflalaocnghcaaDoorW.PrintMore Go.Proofs.YtkflalaocnghcaaDoorK
attribute [local go_sem] max2_int min2_int max_two min_two max_three min_three max_four min_four   -- for this text's walks alone
attribute [local go_sem ↓] Go.Proofs.YtkflalaocnghcaaDoorK.isSome_setCell
set_option linter.unusedVariables false
set_option linter.unusedSimpArgs false

/-! ### aquiferref06_Union: function 21 -/
def aquiferref06_Union.f (k : Nat) (l0 : List ByteArray) (l1 : List ByteArray) : Option (List ByteArray × Int) := (aquiferref06_May.f k l0).bind fun t262 => (if t262 = true then ((aquiferref06_May.f k l1).bind fun t263 => (if t263 = true then ((some (([] : List ByteArray) : List ByteArray)).bind fun y264 => (if y264.length + l0.length < 8796093022208 then ((some (y264 ++ l0 : List ByteArray)).bind fun y267 => (if y267.length + l1.length < 8796093022208 then ((aquiferref06_Make.f k (y267 ++ l1)).bind fun bt273 => (some (bt273.1, bt273.2))) else (none))) else (none))) else (some (([] : List ByteArray), 2)))) else (some (([] : List ByteArray), 2)))
theorem aquiferref06_Union.mono : ∀ a0 a1 k, LeO (aquiferref06_Union.f k a0 a1) (aquiferref06_Union.f (k + 1) a0 a1) := by
  intro a0 a1 k
  unfold aquiferref06_Union.f
  repeat' first
      | (with_reducible exact aquiferref06_Make.mono _ _)
      | (with_reducible exact aquiferref06_May.mono _ _)
      | (with_reducible exact LeO.refl _)
      | (with_reducible exact LeO.none _)
      | (with_reducible refine LeO.ite ?_ ?_)
      | (with_reducible refine LeO.bind ?_ (fun _ => ?_))
      | exact aquiferref06_Make.mono _ _
      | exact aquiferref06_May.mono _ _
      | exact LeO.none _
      | refine LeO.ite ?_ ?_
      | refine LeO.bind ?_ (fun _ => ?_)
set_option maxHeartbeats 8000000 in
set_option maxRecDepth 100000 in
theorem aquiferref06_Union.calls (k : Nat) (A0 : Option Addr) (c0 : Nat) (l0 : List ByteArray) (A1 : Option Addr) (c1 : Nat) (l1 : List ByteArray) (r1 : List ByteArray) (r2 : Int) (w : World) (hr0 : Kd.C Kd.string w A0 l0.length l0) (hc0 : l0.length ≤ c0) (hr1 : Kd.C Kd.string w A1 l1.length l1) (hc1 : l1.length ≤ c1) (h : aquiferref06_Union.f k l0 l1 = some (r1, r2)) :
    Calls Tryd.prog 21 #[.slice A0 l0.length c0, .slice A1 l1.length c1] w fun e w' => ∃ v0_ : Value, e = .returned (.tuple #[v0_, .int .i64 r2]) ∧ Kd.R Kd.string 9 w' w.heap.size (fun _ => True) v0_ r1 ∧ Below w.heap.size w w' := by
  have HR0 := Aside0.mk hr0
  have HC0 := Aside0.mk hc0
  clear hr0 hc0
  have HR1 := Aside0.mk hr1
  have HC1 := Aside0.mk hc1
  clear hr1 hc1
  have HB := Aside0.mk (Below.refl w.heap.size w)
  have H : ((aquiferref06_May.f k l0).bind fun t262 => (if t262 = true then ((aquiferref06_May.f k l1).bind fun t263 => (if t263 = true then ((some (([] : List ByteArray) : List ByteArray)).bind fun y264 => (if y264.length + l0.length < 8796093022208 then ((some (y264 ++ l0 : List ByteArray)).bind fun y267 => (if y267.length + l1.length < 8796093022208 then ((aquiferref06_Make.f k (y267 ++ l1)).bind fun bt273 => (some (bt273.1, bt273.2))) else (none))) else (none))) else (some (([] : List ByteArray), 2)))) else (some (([] : List ByteArray), 2)))) = some (r1, r2) := h
  clear h
  replace H := Option.bind_eq_some_iff.mp H
  obtain ⟨t262, A30, H⟩ := H
  replace H : (if t262 = true then ((aquiferref06_May.f k l1).bind fun t263 => (if t263 = true then ((some (([] : List ByteArray) : List ByteArray)).bind fun y264 => (if y264.length + l0.length < 8796093022208 then ((some (y264 ++ l0 : List ByteArray)).bind fun y267 => (if y267.length + l1.length < 8796093022208 then ((aquiferref06_Make.f k (y267 ++ l1)).bind fun bt273 => (some (bt273.1, bt273.2))) else (none))) else (none))) else (some (([] : List ByteArray), 2)))) else (some (([] : List ByteArray), 2))) = some (r1, r2) := H
  have A3 := Aside0.mk A30
  clear A30
  by_cases c4 : t262 = true
  · subst c4
    have H1 : ((aquiferref06_May.f k l1).bind fun t263 => (if t263 = true then ((some (([] : List ByteArray) : List ByteArray)).bind fun y264 => (if y264.length + l0.length < 8796093022208 then ((some (y264 ++ l0 : List ByteArray)).bind fun y267 => (if y267.length + l1.length < 8796093022208 then ((aquiferref06_Make.f k (y267 ++ l1)).bind fun bt273 => (some (bt273.1, bt273.2))) else (none))) else (none))) else (some (([] : List ByteArray), 2)))) = some (r1, r2) := by rw [if_pos rfl] at H; exact H
    clear H
    have H := H1
    clear H1
    replace H := Option.bind_eq_some_iff.mp H
    obtain ⟨t263, A50, H⟩ := H
    replace H : (if t263 = true then ((some (([] : List ByteArray) : List ByteArray)).bind fun y264 => (if y264.length + l0.length < 8796093022208 then ((some (y264 ++ l0 : List ByteArray)).bind fun y267 => (if y267.length + l1.length < 8796093022208 then ((aquiferref06_Make.f k (y267 ++ l1)).bind fun bt273 => (some (bt273.1, bt273.2))) else (none))) else (none))) else (some (([] : List ByteArray), 2))) = some (r1, r2) := H
    have A5 := Aside0.mk A50
    clear A50
    by_cases c6 : t263 = true
    · subst c6
      have H1 : ((some (([] : List ByteArray) : List ByteArray)).bind fun y264 => (if y264.length + l0.length < 8796093022208 then ((some (y264 ++ l0 : List ByteArray)).bind fun y267 => (if y267.length + l1.length < 8796093022208 then ((aquiferref06_Make.f k (y267 ++ l1)).bind fun bt273 => (some (bt273.1, bt273.2))) else (none))) else (none))) = some (r1, r2) := by rw [if_pos rfl] at H; exact H
      clear H
      have H := H1
      clear H1
      obtain ⟨y264, hy264⟩ : ∃ y_ : List ByteArray, y_ = (([] : List ByteArray)) := ⟨_, rfl⟩
      replace H : (if y264.length + l0.length < 8796093022208 then ((some (y264 ++ l0 : List ByteArray)).bind fun y267 => (if y267.length + l1.length < 8796093022208 then ((aquiferref06_Make.f k (y267 ++ l1)).bind fun bt273 => (some (bt273.1, bt273.2))) else (none))) else (none)) = some (r1, r2) := by first | (rw [hy264]; with_reducible exact H) | (have H2_ := (Option.bind_some _ _).symm.trans H; rw [hy264]; with_reducible exact H2_) | (have H2_ := (Option.bind_some _ _).symm.trans H; with_reducible exact H2_) | with_reducible exact H | (rw [hy264]; exact H) | exact H
      have Ny264 := Aside0.mk hy264
      clear hy264
      by_cases c7 : y264.length + l0.length < 8796093022208
      · rw [if_pos c7] at H
        have LMc7 := Aside0.mk c7
        clear c7
        obtain ⟨y267, hy267⟩ : ∃ y_ : List ByteArray, y_ = (y264 ++ l0) := ⟨_, rfl⟩
        replace H : (if y267.length + l1.length < 8796093022208 then ((aquiferref06_Make.f k (y267 ++ l1)).bind fun bt273 => (some (bt273.1, bt273.2))) else (none)) = some (r1, r2) := by first | (rw [hy267]; with_reducible exact H) | (have H2_ := (Option.bind_some _ _).symm.trans H; rw [hy267]; with_reducible exact H2_) | (have H2_ := (Option.bind_some _ _).symm.trans H; with_reducible exact H2_) | with_reducible exact H | (rw [hy267]; exact H) | exact H
        have Ny267 := Aside0.mk hy267
        clear hy267
        by_cases c8 : y267.length + l1.length < 8796093022208
        · rw [if_pos c8] at H
          have LMc8 := Aside0.mk c8
          clear c8
          obtain ⟨y270, hy270⟩ : ∃ y_ : List ByteArray, y_ = (y267 ++ l1) := ⟨_, rfl⟩
          replace H : ((aquiferref06_Make.f k y270).bind fun bt273 => (some (bt273.1, bt273.2))) = some (r1, r2) := by first | (rw [hy270]; with_reducible exact H) | (have H2_ := (Option.bind_some _ _).symm.trans H; rw [hy270]; with_reducible exact H2_) | (have H2_ := (Option.bind_some _ _).symm.trans H; with_reducible exact H2_) | with_reducible exact H | (rw [hy270]; exact H) | exact H
          have Ny270 := Aside0.mk hy270
          clear hy270
          replace H := Option.bind_eq_some_iff.mp H
          obtain ⟨⟨t273, t274⟩, A90, H⟩ := H
          replace H : (some (t273, t274)) = some (r1, r2) := H
          have A9 := Aside0.mk A90
          clear A90
          simp only [Option.some.injEq, Prod.mk.injEq] at H
          obtain ⟨rfl, rfl⟩ := H
          go_enter Tryd.func21, Tryd.ntmps21
          go_wp2_with (first | ((with_reducible refine gate_callee (f := 14) rfl ?_); refine goesL_ (some 7) rfl rfl Tryd.func14 (by kernel_rfl) rfl #[.slice A0 l0.length c0] rfl (by (try simp only [List.map_toArray, List.map_cons, List.map_nil]); first | done | rfl | (simp only [List.length_drop, List.length_take]; rfl)) ?_; (with_reducible refine (aquiferref06_May.calls k _ _ l0 true _ ?side1 ?side2 A3.out).mono ?_); (case side1 => exact CU HR0.out); (case side2 => exact HC0.out); rintro e w10 ⟨rfl, hb⟩; refine ⟨_, rfl, ?_⟩; have n0_ := Aside0.mk (below_step (belU HB.out) hb); clear HB; have HB := n0_; clear n0_; (try clear hb); (try clear hb2); (try clear hk); (try clear hi)) | (go_at_call 14; (with_reducible refine (aquiferref06_May.calls k _ _ l1 true _ ?side1 ?side2 A5.out).mono ?_); (case side1 => exact CU (Kd.C_below HR1.out HB.out)); (case side2 => exact HC1.out); rintro e w11 ⟨rfl, hb⟩; have n0_ := Aside0.mk (below_step (belU HB.out) hb); clear HB; have HB := n0_; clear n0_; (try clear hb); (try clear hb2); (try clear hk); (try clear hi)) | ((with_reducible refine gate_dst (N := 14) rfl ?_); refine Kd.R_lit Kd.string _ 9 ?hg (N := 14) ?hd (xs := ([] : List ByteArray)) (inner := []) (ok := fun _ => True) (okp := fun _ => True) ?hr ?hp (fun _ hk => hk) trivial (Below.refl _ _) (Nat.le_refl _) (by simp) ?_; (case hd => rfl); (case hg => rfl); (case hr => first | (go_simp; done) | (go_simp; rfl)); (case hp => exact (Reps.none _ _)); intro v265 w12 ho13 hb hg_ hnew_; clear hg_ hnew_; (first | rw [← Ny264.out] at ho13 | (simp only [Int.reduceToNat] at ho13; rw [← Ny264.out] at ho13)); have n0_ := Aside0.mk (Kd.R_lower ho13 (sizU HB.out)); have n1_ := Aside0.mk (below_step (belU HB.out) hb); clear HB; have HO266 := n0_; have HB := n1_; clear n0_ n1_; clear hb ho13) | ((with_reducible refine gate_builtin (b := .append) (xs := #[.tmp 14, .tmp 15]) rfl ?_); at_builtin; refine Kd.R_append_rows Kd.string (w0 := w) w.heap.size rfl (.tmp 14) (.tmp 15) 22 9 (.string ⟨#[]⟩) 16 rfl Tryd.underlying22 info9 rfl (by decide) (by omega) v265 y264 l0 _ _ _ (fun _ => True) (fun _ => False) rfl rfl ?aO ?aR (fun _ _ h => h) (fun _ h => h.elim) ?aF ?aB ?aS ?aL ?_; (case aR => exact CU (Kd.C_below HR0.out HB.out)); (case aB => exact (belU HB.out)); (case aF => exact (fun _ _ => trivial)); (case aO => exact (RU HO266.out)); (case aS => exact (sizU HB.out)); (case aL => have := LMc7.out; omega); intro v268 w14 ho hb hg hat; rw [← Ny267.out] at ho; have n0_ := Aside0.mk (hb); have n1_ := Aside0.mk (ho); clear HB; clear HO266; have HB := n0_; have HO269 := n1_; clear n0_ n1_; clear ho hb hg hat) | ((with_reducible refine gate_builtin (b := .append) (xs := #[.tmp 16, .tmp 17]) rfl ?_); at_builtin; refine Kd.R_append_rows Kd.string (w0 := w) w.heap.size rfl (.tmp 16) (.tmp 17) 22 9 (.string ⟨#[]⟩) 16 rfl Tryd.underlying22 info9 rfl (by decide) (by omega) v268 y267 l1 _ _ _ (fun _ => True) (fun _ => False) rfl rfl ?aO ?aR (fun _ _ h => h) (fun _ h => h.elim) ?aF ?aB ?aS ?aL ?_; (case aR => exact CU (Kd.C_below HR1.out HB.out)); (case aB => exact (belU HB.out)); (case aF => exact (fun _ _ => trivial)); (case aO => exact (RU HO269.out)); (case aS => exact (sizU HB.out)); (case aL => have := LMc8.out; omega); intro v271 w15 ho hb hg hat; rw [← Ny270.out] at ho; have n0_ := Aside0.mk (hb); have n1_ := Aside0.mk (ho); clear HB; clear HO269; have HB := n0_; have HO272 := n1_; clear n0_ n1_; clear ho hb hg hat; obtain ⟨Ao16, co16, eo16⟩ := Kd.R_slice HO272.out; subst eo16) | ((with_reducible refine gate_callee (f := 11) rfl ?_); refine goesL_ (some 19) rfl rfl Tryd.func11 (by kernel_rfl) rfl #[.slice Ao16 y270.length co16] rfl (by (try simp only [List.map_toArray, List.map_cons, List.map_nil]); first | done | rfl | (simp only [List.length_drop, List.length_take]; rfl)) ?_; (with_reducible refine (aquiferref06_Make.calls k _ _ y270 t273 t274 _ ?side1 ?side2 A9.out).mono ?_); (case side1 => exact CU (Kd.R_reads' HO272.out).2.2); (case side2 => exact (Kd.R_reads' HO272.out).2.1); rintro e w17 ⟨v275, rfl, ho0, hb⟩; refine ⟨_, rfl, ?_⟩; have n0_ := Aside0.mk (Kd.R_elder' (RU HO272.out) (Kd.R_base ho0) hb); have n1_ := Aside0.mk (Kd.R_lower (Kd.R_new' ho0 (Kd.R_lt (RU HO272.out))) (sizU HB.out)); have n2_ := Aside0.mk (below_step (belU HB.out) hb); clear HO272; clear HB; have HO272 := n0_; have HO276 := n1_; have HB := n2_; clear n0_ n1_ n2_; (try clear hb); (try clear hb2); (try clear hk); (try clear hi); (try clear ho0)))
          go_ret2
          exact ⟨_, by first | rfl | (simp [errW_none, errW_some] <;> rfl) | (simp [*, errW_none, errW_some] <;> rfl), by (with_reducible repeat (first | apply Kd.R_alloc | apply Kd.R_drewN | apply Kd.R_drew)); exact Kd.R_mono HO276.out (fun _ hk => trivial), belU HB.out⟩
        · rw [if_neg c8] at H
          exact absurd H (by simp)
      · rw [if_neg c7] at H
        exact absurd H (by simp)
    · replace c6 := Bool.eq_false_iff.mpr c6
      subst c6
      have H1 : (some (([] : List ByteArray), 2)) = some (r1, r2) := by rw [if_neg (show ¬ (false = true) by decide)] at H; exact H
      clear H
      have H := H1
      clear H1
      simp only [Option.some.injEq, Prod.mk.injEq] at H
      obtain ⟨rfl, rfl⟩ := H
      go_enter Tryd.func21, Tryd.ntmps21
      go_wp2_with (first | ((with_reducible refine gate_callee (f := 14) rfl ?_); refine goesL_ (some 7) rfl rfl Tryd.func14 (by kernel_rfl) rfl #[.slice A0 l0.length c0] rfl (by (try simp only [List.map_toArray, List.map_cons, List.map_nil]); first | done | rfl | (simp only [List.length_drop, List.length_take]; rfl)) ?_; (with_reducible refine (aquiferref06_May.calls k _ _ l0 true _ ?side1 ?side2 A3.out).mono ?_); (case side1 => exact CU HR0.out); (case side2 => exact HC0.out); rintro e w18 ⟨rfl, hb⟩; refine ⟨_, rfl, ?_⟩; have n0_ := Aside0.mk (below_step (belU HB.out) hb); clear HB; have HB := n0_; clear n0_; (try clear hb); (try clear hb2); (try clear hk); (try clear hi)) | (go_at_call 14; (with_reducible refine (aquiferref06_May.calls k _ _ l1 false _ ?side1 ?side2 A5.out).mono ?_); (case side1 => exact CU (Kd.C_below HR1.out HB.out)); (case side2 => exact HC1.out); rintro e w19 ⟨rfl, hb⟩; have n0_ := Aside0.mk (below_step (belU HB.out) hb); clear HB; have HB := n0_; clear n0_; (try clear hb); (try clear hb2); (try clear hk); (try clear hi)))
      go_ret2
      exact ⟨_, by first | rfl | (simp [errW_none, errW_some] <;> rfl) | (simp [*, errW_none, errW_some] <;> rfl), by first | exact Kd.R_nil _ _ _ _ _ | exact Kd.N_nil _ _ _ _ _ | exact Kd.V_nil _ _ _ _ _ | exact Kd.Q_nil _ _ _ _ _ | exact Kd.S_nil _ _ _ _ _, belU HB.out⟩
  · replace c4 := Bool.eq_false_iff.mpr c4
    subst c4
    have H1 : (some (([] : List ByteArray), 2)) = some (r1, r2) := by rw [if_neg (show ¬ (false = true) by decide)] at H; exact H
    clear H
    have H := H1
    clear H1
    simp only [Option.some.injEq, Prod.mk.injEq] at H
    obtain ⟨rfl, rfl⟩ := H
    go_enter Tryd.func21, Tryd.ntmps21
    go_wp2_with (first | ((with_reducible refine gate_callee (f := 14) rfl ?_); refine goesL_ (some 7) rfl rfl Tryd.func14 (by kernel_rfl) rfl #[.slice A0 l0.length c0] rfl (by (try simp only [List.map_toArray, List.map_cons, List.map_nil]); first | done | rfl | (simp only [List.length_drop, List.length_take]; rfl)) ?_; (with_reducible refine (aquiferref06_May.calls k _ _ l0 false _ ?side1 ?side2 A3.out).mono ?_); (case side1 => exact CU HR0.out); (case side2 => exact HC0.out); rintro e w20 ⟨rfl, hb⟩; refine ⟨_, rfl, ?_⟩; have n0_ := Aside0.mk (below_step (belU HB.out) hb); clear HB; have HB := n0_; clear n0_; (try clear hb); (try clear hb2); (try clear hk); (try clear hi)))
    go_ret2
    exact ⟨_, by first | rfl | (simp [errW_none, errW_some] <;> rfl) | (simp [*, errW_none, errW_some] <;> rfl), by first | exact Kd.R_nil _ _ _ _ _ | exact Kd.N_nil _ _ _ _ _ | exact Kd.V_nil _ _ _ _ _ | exact Kd.Q_nil _ _ _ _ _ | exact Kd.S_nil _ _ _ _ _, belU HB.out⟩

end Go.Proofs.YtkflalaocnghcaaDoor.Q

namespace Go.Proofs.YtkflalaocnghcaaDoor.Q
open Go.RowKit Go.Proofs.YtkflalaocnghcaaDoorW.PrintWords Go.Proofs.YtkflalaocnghcaaDoorW.PrintLast Go.Proofs.YtkflalaocnghcaaDoorW.PrintMore Go.Proofs.YtkflalaocnghcaaDoorK
attribute [local go_sem] max2_int min2_int max_two min_two max_three min_three max_four min_four   -- for this text's walks alone
attribute [local go_sem ↓] Go.Proofs.YtkflalaocnghcaaDoorK.isSome_setCell
set_option linter.unusedVariables false
set_option linter.unusedSimpArgs false

/-! ### aquiferref06_Meet: function 23 -/
mutual
def aquiferref06_Meet.j0 : Nat → List ByteArray → List ByteArray → Bool → Option (List ByteArray)
  | 0, _, _, _ => none
  | k + 1, x0, x1, x15 => if x15 = true then (some ([] : List ByteArray)) else (aquiferref06_Meet.l0 k x0 x1 ([] : List ByteArray) 0)
def aquiferref06_Meet.l0 : Nat → List ByteArray → List ByteArray → List ByteArray → Int → Option (List ByteArray)
  | 0, _, _, _, _ => none
  | k + 1, x0, x1, x5, x6 => if x6 < (x0.length : Int) then (if 0 ≤ x6 then ((aquiferref06_Has.f k x1 (rdOf ByteArray.empty x0 x6)).bind fun t280 => (if t280 = true then (if x5.length < 8796093022208 then (aquiferref06_Meet.l0 k x0 x1 (x5 ++ [rdOf ByteArray.empty x0 x6]) (wrap64 (x6 + 1))) else (none)) else (aquiferref06_Meet.l0 k x0 x1 x5 (wrap64 (x6 + 1))))) else (none)) else (aquiferref06_Meet.l1 k x0 x1 x5 0)
def aquiferref06_Meet.l1 : Nat → List ByteArray → List ByteArray → List ByteArray → Int → Option (List ByteArray)
  | 0, _, _, _, _ => none
  | k + 1, x0, x1, x5, x7 => if x7 < (x1.length : Int) then (if 0 ≤ x7 then ((aquiferref06_Has.f k x0 (rdOf ByteArray.empty x1 x7)).bind fun t286 => (if t286 = true then (if x5.length < 8796093022208 then (aquiferref06_Meet.l1 k x0 x1 (x5 ++ [rdOf ByteArray.empty x1 x7]) (wrap64 (x7 + 1))) else (none)) else (aquiferref06_Meet.l1 k x0 x1 x5 (wrap64 (x7 + 1))))) else (none)) else ((aquiferref06_reduce.f k x5).bind fun t291 => (some t291))
end
def aquiferref06_Meet.f (k : Nat) (l0 : List ByteArray) (l1 : List ByteArray) : Option (List ByteArray) := (aquiferref06_May.f k l0).bind fun t277 => (if t277 = true then ((aquiferref06_May.f k l1).bind fun t278 => (aquiferref06_Meet.j0 k l0 l1 (!t278))) else (aquiferref06_Meet.j0 k l0 l1 true))
theorem aquiferref06_Meet.mono_l : ∀ k, (∀ y0 y1 y2, LeO (aquiferref06_Meet.j0 k y0 y1 y2) (aquiferref06_Meet.j0 (k + 1) y0 y1 y2)) ∧ (∀ y0 y1 y2 y3, LeO (aquiferref06_Meet.l0 k y0 y1 y2 y3) (aquiferref06_Meet.l0 (k + 1) y0 y1 y2 y3)) ∧ (∀ y0 y1 y2 y3, LeO (aquiferref06_Meet.l1 k y0 y1 y2 y3) (aquiferref06_Meet.l1 (k + 1) y0 y1 y2 y3))
  | 0 => ⟨fun _ _ _ r h => by simp [aquiferref06_Meet.j0] at h, fun _ _ _ _ r h => by simp [aquiferref06_Meet.l0] at h, fun _ _ _ _ r h => by simp [aquiferref06_Meet.l1] at h⟩
  | k + 1 => by
    obtain ⟨ih0, ih1, ih2⟩ := aquiferref06_Meet.mono_l k
    refine ⟨?_, ?_, ?_⟩
    · intro y0 y1 y2
      unfold aquiferref06_Meet.j0
      repeat' first
      | (with_reducible exact ih0 _ _ _)
      | (with_reducible exact ih1 _ _ _ _)
      | (with_reducible exact ih2 _ _ _ _)
      | (with_reducible exact aquiferref06_Has.mono _ _ _)
      | (with_reducible exact aquiferref06_May.mono _ _)
      | (with_reducible exact aquiferref06_reduce.mono _ _)
      | (with_reducible exact LeO.refl _)
      | (with_reducible exact LeO.none _)
      | (with_reducible refine LeO.ite ?_ ?_)
      | (with_reducible refine LeO.bind ?_ (fun _ => ?_))
      | exact ih0 _ _ _
      | exact ih1 _ _ _ _
      | exact ih2 _ _ _ _
      | exact aquiferref06_Has.mono _ _ _
      | exact aquiferref06_May.mono _ _
      | exact aquiferref06_reduce.mono _ _
      | exact LeO.none _
      | refine LeO.ite ?_ ?_
      | refine LeO.bind ?_ (fun _ => ?_)
    · intro y0 y1 y2 y3
      unfold aquiferref06_Meet.l0
      repeat' first
      | (with_reducible exact ih0 _ _ _)
      | (with_reducible exact ih1 _ _ _ _)
      | (with_reducible exact ih2 _ _ _ _)
      | (with_reducible exact aquiferref06_Has.mono _ _ _)
      | (with_reducible exact aquiferref06_May.mono _ _)
      | (with_reducible exact aquiferref06_reduce.mono _ _)
      | (with_reducible exact LeO.refl _)
      | (with_reducible exact LeO.none _)
      | (with_reducible refine LeO.ite ?_ ?_)
      | (with_reducible refine LeO.bind ?_ (fun _ => ?_))
      | exact ih0 _ _ _
      | exact ih1 _ _ _ _
      | exact ih2 _ _ _ _
      | exact aquiferref06_Has.mono _ _ _
      | exact aquiferref06_May.mono _ _
      | exact aquiferref06_reduce.mono _ _
      | exact LeO.none _
      | refine LeO.ite ?_ ?_
      | refine LeO.bind ?_ (fun _ => ?_)
    · intro y0 y1 y2 y3
      unfold aquiferref06_Meet.l1
      repeat' first
      | (with_reducible exact ih0 _ _ _)
      | (with_reducible exact ih1 _ _ _ _)
      | (with_reducible exact ih2 _ _ _ _)
      | (with_reducible exact aquiferref06_Has.mono _ _ _)
      | (with_reducible exact aquiferref06_May.mono _ _)
      | (with_reducible exact aquiferref06_reduce.mono _ _)
      | (with_reducible exact LeO.refl _)
      | (with_reducible exact LeO.none _)
      | (with_reducible refine LeO.ite ?_ ?_)
      | (with_reducible refine LeO.bind ?_ (fun _ => ?_))
      | exact ih0 _ _ _
      | exact ih1 _ _ _ _
      | exact ih2 _ _ _ _
      | exact aquiferref06_Has.mono _ _ _
      | exact aquiferref06_May.mono _ _
      | exact aquiferref06_reduce.mono _ _
      | exact LeO.none _
      | refine LeO.ite ?_ ?_
      | refine LeO.bind ?_ (fun _ => ?_)
theorem aquiferref06_Meet.mono : ∀ a0 a1 k, LeO (aquiferref06_Meet.f k a0 a1) (aquiferref06_Meet.f (k + 1) a0 a1) := by
  intro a0 a1 k
  obtain ⟨ih0, ih1, ih2⟩ := aquiferref06_Meet.mono_l k
  unfold aquiferref06_Meet.f
  repeat' first
      | (with_reducible exact ih0 _ _ _)
      | (with_reducible exact ih1 _ _ _ _)
      | (with_reducible exact ih2 _ _ _ _)
      | (with_reducible exact aquiferref06_Has.mono _ _ _)
      | (with_reducible exact aquiferref06_May.mono _ _)
      | (with_reducible exact aquiferref06_reduce.mono _ _)
      | (with_reducible exact LeO.refl _)
      | (with_reducible exact LeO.none _)
      | (with_reducible refine LeO.ite ?_ ?_)
      | (with_reducible refine LeO.bind ?_ (fun _ => ?_))
      | exact ih0 _ _ _
      | exact ih1 _ _ _ _
      | exact ih2 _ _ _ _
      | exact aquiferref06_Has.mono _ _ _
      | exact aquiferref06_May.mono _ _
      | exact aquiferref06_reduce.mono _ _
      | exact LeO.none _
      | refine LeO.ite ?_ ?_
      | refine LeO.bind ?_ (fun _ => ?_)
set_option maxHeartbeats 8000000 in
set_option maxRecDepth 100000 in
theorem aquiferref06_Meet.calls (k : Nat) (A0 : Option Addr) (c0 : Nat) (l0 : List ByteArray) (A1 : Option Addr) (c1 : Nat) (l1 : List ByteArray) (r : List ByteArray) (w : World) (hr0 : Kd.C Kd.string w A0 l0.length l0) (hc0 : l0.length ≤ c0) (hr1 : Kd.C Kd.string w A1 l1.length l1) (hc1 : l1.length ≤ c1) (h : aquiferref06_Meet.f k l0 l1 = some r) :
    Calls Tryd.prog 23 #[.slice A0 l0.length c0, .slice A1 l1.length c1] w fun e w' => ∃ v0_ : Value, e = .returned (v0_) ∧ Kd.R Kd.string 9 w' w.heap.size (fun _ => True) v0_ r ∧ Below w.heap.size w w' := by
  have HR0 := Aside0.mk hr0
  have HC0 := Aside0.mk hc0
  clear hr0 hc0
  have HR1 := Aside0.mk hr1
  have HC1 := Aside0.mk hc1
  clear hr1 hc1
  have HB := Aside0.mk (Below.refl w.heap.size w)
  have H : ((aquiferref06_May.f k l0).bind fun t277 => (if t277 = true then ((aquiferref06_May.f k l1).bind fun t278 => (aquiferref06_Meet.j0 k l0 l1 (!t278))) else (aquiferref06_Meet.j0 k l0 l1 true))) = some r := h
  clear h
  have HC3 := Aside0.mk H
  clear H
  go_enter Tryd.func23, Tryd.ntmps23
  go_upto_region 1 with (fail)
  go_cut [15] (fun v15 wc => ∃ (kq : Nat) (x15_2 : Bool), v15 = .bool x15_2 ∧ Aside0 (aquiferref06_Meet.j0 kq l0 l1 x15_2 = some r) ∧ Aside0 (kq ≤ k) ∧ Aside0 (Below w.heap.size w wc))
  case first =>
    have H := HC3.out
    clear HC3
    replace H := Option.bind_eq_some_iff.mp H
    obtain ⟨t277, A40, H⟩ := H
    replace H : (if t277 = true then ((aquiferref06_May.f k l1).bind fun t278 => (aquiferref06_Meet.j0 k l0 l1 (!t278))) else (aquiferref06_Meet.j0 k l0 l1 true)) = some r := H
    have A4 := Aside0.mk A40
    clear A40
    by_cases c5 : t277 = true
    · subst c5
      have H1 : ((aquiferref06_May.f k l1).bind fun t278 => (aquiferref06_Meet.j0 k l0 l1 (!t278))) = some r := by rw [if_pos rfl] at H; exact H
      clear H
      have H := H1
      clear H1
      replace H := Option.bind_eq_some_iff.mp H
      obtain ⟨t278, A60, H⟩ := H
      replace H : (aquiferref06_Meet.j0 k l0 l1 (!t278)) = some r := H
      have A6 := Aside0.mk A60
      clear A60
      have H' := Aside0.mk H
      clear H
      go_wp2_with (first | ((with_reducible refine gate_callee (f := 14) rfl ?_); refine goesL_ (some 9) rfl rfl Tryd.func14 (by kernel_rfl) rfl #[.slice A0 l0.length c0] rfl (by (try simp only [List.map_toArray, List.map_cons, List.map_nil]); first | done | rfl | (simp only [List.length_drop, List.length_take]; rfl)) ?_; (with_reducible refine (aquiferref06_May.calls k _ _ l0 true _ ?side1 ?side2 A4.out).mono ?_); (case side1 => exact CU (Kd.C_below HR0.out HB.out)); (case side2 => exact HC0.out); rintro e w7 ⟨rfl, hb⟩; refine ⟨_, rfl, ?_⟩; have n0_ := Aside0.mk (below_step (belU HB.out) hb); clear HB; have HB := n0_; clear n0_; (try clear hb); (try clear hb2); (try clear hk); (try clear hi)) | (go_at_call 14; (with_reducible refine (aquiferref06_May.calls k _ _ l1 t278 _ ?side1 ?side2 A6.out).mono ?_); (case side1 => exact CU (Kd.C_below HR1.out HB.out)); (case side2 => exact HC1.out); rintro e w8 ⟨rfl, hb⟩; have n0_ := Aside0.mk (below_step (belU HB.out) hb); clear HB; have HB := n0_; clear n0_; (try clear hb); (try clear hb2); (try clear hk); (try clear hi)))
      go_meet
      case rel => exact ⟨_, (!t278), (by first | rfl | (simp; done) | (simp [*]; done)), H', ⟨by first | omega | exact Nat.le_refl _⟩, ⟨belU HB.out⟩⟩
    · replace c5 := Bool.eq_false_iff.mpr c5
      subst c5
      have H1 : (aquiferref06_Meet.j0 k l0 l1 true) = some r := by rw [if_neg (show ¬ (false = true) by decide)] at H; exact H
      clear H
      have H := H1
      clear H1
      have H' := Aside0.mk H
      clear H
      go_wp2_with (first | ((with_reducible refine gate_callee (f := 14) rfl ?_); refine goesL_ (some 9) rfl rfl Tryd.func14 (by kernel_rfl) rfl #[.slice A0 l0.length c0] rfl (by (try simp only [List.map_toArray, List.map_cons, List.map_nil]); first | done | rfl | (simp only [List.length_drop, List.length_take]; rfl)) ?_; (with_reducible refine (aquiferref06_May.calls k _ _ l0 false _ ?side1 ?side2 A4.out).mono ?_); (case side1 => exact CU (Kd.C_below HR0.out HB.out)); (case side2 => exact HC0.out); rintro e w9 ⟨rfl, hb⟩; refine ⟨_, rfl, ?_⟩; have n0_ := Aside0.mk (below_step (belU HB.out) hb); clear HB; have HB := n0_; clear n0_; (try clear hb); (try clear hb2); (try clear hk); (try clear hi)))
      go_meet
      case rel => exact ⟨_, (true), (by first | rfl | (simp; done) | (simp [*]; done)), H', ⟨by first | omega | exact Nat.le_refl _⟩, ⟨belU HB.out⟩⟩
  case rest =>
    clear HC3
    try clear c1
    try clear c2
    try clear p2
    try clear c5
    obtain ⟨kq, x15_2, rfl, HA, HJ2, HB⟩ := hcut
    cases kq with
    | zero => exact absurd HA.out (by simp [aquiferref06_Meet.j0])
    | succ kj2 =>
      have H := HA.out
      clear HA
      simp only [aquiferref06_Meet.j0] at H
      by_cases c10 : x15_2 = true
      · subst c10
        have H1 : (some ([] : List ByteArray)) = some r := by rw [if_pos rfl] at H; exact H
        clear H
        have H := H1
        clear H1
        obtain rfl := Option.some.inj H
        go_wp2
        go_ret
        exact ⟨_, by first | rfl | (simp [errW_none, errW_some] <;> rfl) | (simp [*, errW_none, errW_some] <;> rfl), by first | exact Kd.R_nil _ _ _ _ _ | exact Kd.N_nil _ _ _ _ _ | exact Kd.V_nil _ _ _ _ _ | exact Kd.Q_nil _ _ _ _ _ | exact Kd.S_nil _ _ _ _ _, belU HB.out⟩
      · replace c10 := Bool.eq_false_iff.mpr c10
        subst c10
        have H1 : (aquiferref06_Meet.l0 kj2 l0 l1 ([] : List ByteArray) 0) = some r := by rw [if_neg (show ¬ (false = true) by decide)] at H; exact H
        clear H
        have H := H1
        clear H1
        have H' := Aside0.mk H
        clear H
        go_wp2
        go_loopg [5, 6] kj2 (fun kq v5 v6 w' => ∃ (x5_2 : List ByteArray) (x6_2 : Int), v6 = .int .i64 x6_2 ∧ Aside0 (aquiferref06_Meet.l0 kq l0 l1 x5_2 x6_2 = some r) ∧ Aside0 (kq ≤ kj2) ∧ Aside0 (Kd.R Kd.string 9 w' w.heap.size (fun _ => True) v5 x5_2) ∧ Aside0 (Below w.heap.size w w'))
        case atStart => exact ⟨(([] : List ByteArray)), (0), (by first | rfl | (simp; done) | (simp [*]; done)), H', ⟨Nat.le_refl _⟩, ⟨by first | exact Kd.R_nil _ _ _ _ _ | exact Kd.N_nil _ _ _ _ _ | exact Kd.V_nil _ _ _ _ _ | exact Kd.Q_nil _ _ _ _ _ | exact Kd.S_nil _ _ _ _ _⟩, ⟨belU HB.out⟩⟩
        case round =>
          clear H'
          try clear c1
          try clear c2
          try clear p2
          try clear c5
          try clear c10
          try clear p2
          obtain ⟨x5_2, x6_2, rfl, HA, HK2, HO_5, HB⟩ := hrel
          cases gk with
          | zero => exact absurd HA.out (by simp [aquiferref06_Meet.l0])
          | succ k2 =>
            have H := HA.out
            clear HA
            simp only [aquiferref06_Meet.l0] at H
            by_cases c11 : x6_2 < (l0.length : Int)
            · rw [if_pos c11] at H
              have c11b0 : decide (x6_2 < (l0.length : Int)) = true := decide_eq_true c11
              clear c11
              by_cases c12 : 0 ≤ x6_2
              · rw [if_pos c12] at H
                have c12b0 : decide (0 ≤ x6_2) = true := decide_eq_true c12
                clear c12
                replace H := Option.bind_eq_some_iff.mp H
                obtain ⟨t280, A130, H⟩ := H
                replace H : (if t280 = true then (if x5_2.length < 8796093022208 then (aquiferref06_Meet.l0 k2 l0 l1 (x5_2 ++ [rdOf ByteArray.empty l0 x6_2]) (wrap64 (x6_2 + 1))) else (none)) else (aquiferref06_Meet.l0 k2 l0 l1 x5_2 (wrap64 (x6_2 + 1)))) = some r := H
                have A13 := Aside0.mk A130
                clear A130
                by_cases c14 : t280 = true
                · subst c14
                  have H1 : (if x5_2.length < 8796093022208 then (aquiferref06_Meet.l0 k2 l0 l1 (x5_2 ++ [rdOf ByteArray.empty l0 x6_2]) (wrap64 (x6_2 + 1))) else (none)) = some r := by rw [if_pos rfl] at H; exact H
                  clear H
                  have H := H1
                  clear H1
                  by_cases c15 : x5_2.length < 8796093022208
                  · rw [if_pos c15] at H
                    have LMc15 := Aside0.mk c15
                    clear c15
                    obtain ⟨y282, hy282⟩ : ∃ y_ : List ByteArray, y_ = (x5_2 ++ [rdOf ByteArray.empty l0 x6_2]) := ⟨_, rfl⟩
                    replace H : (aquiferref06_Meet.l0 k2 l0 l1 y282 (wrap64 (x6_2 + 1))) = some r := by first | (rw [hy282]; with_reducible exact H) | (have H2_ := (Option.bind_some _ _).symm.trans H; rw [hy282]; with_reducible exact H2_) | (have H2_ := (Option.bind_some _ _).symm.trans H; with_reducible exact H2_) | with_reducible exact H | (rw [hy282]; exact H) | exact H
                    have Ny282 := Aside0.mk hy282
                    clear hy282
                    have H' := Aside0.mk H
                    clear H
                    have p279 : 0 ≤ (x6_2 : Int) := of_decide_eq_true (by first | (with_reducible assumption) | assumption)
                    have q279 : x6_2 < (l0.length : Int) := of_decide_eq_true (by first | (with_reducible assumption) | assumption)
                    obtain ⟨ad279, e279, hx279_0⟩ := Kd.at_string HR0.out x6_2 p279 q279
                    cases e279
                    replace hx279_0 := (HB.out.cell (World.block_lt_of_cell? w _ hx279_0)).trans hx279_0
                    replace p279 := eq_true p279
                    replace q279 := eq_true q279
                    go_wp2_with (first | ((with_reducible refine gate_callee (f := 17) rfl ?_); refine goesL_ (some 27) rfl rfl Tryd.func17 (by kernel_rfl) rfl #[.slice A1 l1.length c1, .string (rdOf ByteArray.empty l0 x6_2)] rfl (by (try simp only [List.map_toArray, List.map_cons, List.map_nil]); first | done | rfl | (simp only [List.length_drop, List.length_take]; rfl)) ?_; (with_reducible refine (aquiferref06_Has.calls k2 _ _ l1 (rdOf ByteArray.empty l0 x6_2) true _ ?side1 ?side2 A13.out).mono ?_); (case side1 => exact CU (Kd.C_below HR1.out HB.out)); (case side2 => exact HC1.out); rintro e w16 ⟨rfl, hb⟩; refine ⟨_, rfl, ?_⟩; have n0_ := Aside0.mk (Kd.R_below (RU HO_5.out) hb); have n1_ := Aside0.mk (below_step (belU HB.out) hb); clear HO_5; clear HB; have HO_5 := n0_; have HB := n1_; clear n0_ n1_; (try clear hb); (try clear hb2); (try clear hk); (try clear hi); have p281 : 0 ≤ (x6_2 : Int) := of_decide_eq_true (by first | (with_reducible assumption) | assumption); have q281 : x6_2 < (l0.length : Int) := of_decide_eq_true (by first | (with_reducible assumption) | assumption); obtain ⟨ad281, e281, hx281_0⟩ := Kd.at_string HR0.out x6_2 p281 q281; obtain rfl : ad279 = ad281 := (by injection e281); replace hx281_0 := (HB.out.cell (World.block_lt_of_cell? w _ hx281_0)).trans hx281_0; replace p281 := eq_true p281; replace q281 := eq_true q281) | ((with_reducible refine gate_builtin (b := .append) (xs := #[.tmp 28, .tmp 33]) rfl ?_); at_builtin; refine Kd.R_append Kd.string (w0 := w) w.heap.size rfl (.tmp 28) (.tmp 33) 22 9 (.string ⟨#[]⟩) 16 rfl Tryd.underlying22 info9 rfl (by decide) (by omega) u5 x5_2 (rdOf ByteArray.empty l0 x6_2) [.string (rdOf ByteArray.empty l0 x6_2)] (fun _ => True) (fun _ => False) rfl rfl ?aP (fun _ hk => hk.elim) ?aF ?aO ?aB ?aS ?aL ?_; (case aP => exact rfl); (case aB => exact (belU HB.out)); (case aF => exact (fun _ _ => trivial)); (case aO => exact (RU HO_5.out)); (case aS => exact (sizU HB.out)); (case aL => have := LMc15.out; omega); intro v283 w17 ho hb hg hat; rw [← Ny282.out] at ho; have n0_ := Aside0.mk (hb); have n1_ := Aside0.mk (ho); clear HB; clear HO_5; have HB := n0_; have HO284 := n1_; clear n0_ n1_; clear ho hb hg hat))
                    go_roundg k2
                    case measure => have := HJ2.out; have := HK2.out; omega
                    case rel => exact ⟨(y282), (wrap64 (x6_2 + 1)), (by first | rfl | (simp; done) | (simp [*]; done)), H', ⟨by have := HJ2.out; have := HK2.out; omega⟩, ⟨RU HO284.out⟩, ⟨belU HB.out⟩⟩
                  · rw [if_neg c15] at H
                    exact absurd H (by simp)
                · replace c14 := Bool.eq_false_iff.mpr c14
                  subst c14
                  have H1 : (aquiferref06_Meet.l0 k2 l0 l1 x5_2 (wrap64 (x6_2 + 1))) = some r := by rw [if_neg (show ¬ (false = true) by decide)] at H; exact H
                  clear H
                  have H := H1
                  clear H1
                  have H' := Aside0.mk H
                  clear H
                  have p279 : 0 ≤ (x6_2 : Int) := of_decide_eq_true (by first | (with_reducible assumption) | assumption)
                  have q279 : x6_2 < (l0.length : Int) := of_decide_eq_true (by first | (with_reducible assumption) | assumption)
                  obtain ⟨ad279, e279, hx279_0⟩ := Kd.at_string HR0.out x6_2 p279 q279
                  cases e279
                  replace hx279_0 := (HB.out.cell (World.block_lt_of_cell? w _ hx279_0)).trans hx279_0
                  replace p279 := eq_true p279
                  replace q279 := eq_true q279
                  go_wp2_with (first | ((with_reducible refine gate_callee (f := 17) rfl ?_); refine goesL_ (some 27) rfl rfl Tryd.func17 (by kernel_rfl) rfl #[.slice A1 l1.length c1, .string (rdOf ByteArray.empty l0 x6_2)] rfl (by (try simp only [List.map_toArray, List.map_cons, List.map_nil]); first | done | rfl | (simp only [List.length_drop, List.length_take]; rfl)) ?_; (with_reducible refine (aquiferref06_Has.calls k2 _ _ l1 (rdOf ByteArray.empty l0 x6_2) false _ ?side1 ?side2 A13.out).mono ?_); (case side1 => exact CU (Kd.C_below HR1.out HB.out)); (case side2 => exact HC1.out); rintro e w18 ⟨rfl, hb⟩; refine ⟨_, rfl, ?_⟩; have n0_ := Aside0.mk (Kd.R_below (RU HO_5.out) hb); have n1_ := Aside0.mk (below_step (belU HB.out) hb); clear HO_5; clear HB; have HO_5 := n0_; have HB := n1_; clear n0_ n1_; (try clear hb); (try clear hb2); (try clear hk); (try clear hi)))
                  go_roundg k2
                  case measure => have := HJ2.out; have := HK2.out; omega
                  case rel => exact ⟨(x5_2), (wrap64 (x6_2 + 1)), (by first | rfl | (simp; done) | (simp [*]; done)), H', ⟨by have := HJ2.out; have := HK2.out; omega⟩, ⟨RU HO_5.out⟩, ⟨belU HB.out⟩⟩
              · rw [if_neg c12] at H
                exact absurd H (by simp)
            · rw [if_neg c11] at H
              have c11b0 : decide (x6_2 < (l0.length : Int)) = false := decide_eq_false c11
              clear c11
              have H' := Aside0.mk H
              clear H
              go_wp2
              go_loopg [5, 7] k2 (fun kq v5 v7 w' => ∃ (x5_3 : List ByteArray) (x7_3 : Int), v7 = .int .i64 x7_3 ∧ Aside0 (aquiferref06_Meet.l1 kq l0 l1 x5_3 x7_3 = some r) ∧ Aside0 (kq ≤ k2) ∧ Aside0 (Kd.R Kd.string 9 w' w.heap.size (fun _ => True) v5 x5_3) ∧ Aside0 (Below w.heap.size w w'))
              case atStart => exact ⟨(x5_2), (0), (by first | rfl | (simp; done) | (simp [*]; done)), H', ⟨Nat.le_refl _⟩, ⟨RU HO_5.out⟩, ⟨belU HB.out⟩⟩
              case round =>
                clear H'
                try clear c1
                try clear c2
                try clear p2
                try clear q2
                try clear hx2
                try clear c5
                try clear p6
                try clear c10
                try clear c11
                try clear c11b0
                try clear c12
                try clear c12b0
                try clear c14
                try clear c15
                try clear c17
                try clear hx279_0
                try clear hx281_0
                try clear p2
                try clear p279
                try clear p281
                try clear q279
                try clear q281
                obtain ⟨x5_3, x7_3, rfl, HA, HK3, HO_5, HB⟩ := hrel
                cases gk with
                | zero => exact absurd HA.out (by simp [aquiferref06_Meet.l1])
                | succ k3 =>
                  have H := HA.out
                  clear HA
                  simp only [aquiferref06_Meet.l1] at H
                  by_cases c19 : x7_3 < (l1.length : Int)
                  · rw [if_pos c19] at H
                    have c19b0 : decide (x7_3 < (l1.length : Int)) = true := decide_eq_true c19
                    clear c19
                    by_cases c20 : 0 ≤ x7_3
                    · rw [if_pos c20] at H
                      have c20b0 : decide (0 ≤ x7_3) = true := decide_eq_true c20
                      clear c20
                      replace H := Option.bind_eq_some_iff.mp H
                      obtain ⟨t286, A210, H⟩ := H
                      replace H : (if t286 = true then (if x5_3.length < 8796093022208 then (aquiferref06_Meet.l1 k3 l0 l1 (x5_3 ++ [rdOf ByteArray.empty l1 x7_3]) (wrap64 (x7_3 + 1))) else (none)) else (aquiferref06_Meet.l1 k3 l0 l1 x5_3 (wrap64 (x7_3 + 1)))) = some r := H
                      have A21 := Aside0.mk A210
                      clear A210
                      by_cases c22 : t286 = true
                      · subst c22
                        have H1 : (if x5_3.length < 8796093022208 then (aquiferref06_Meet.l1 k3 l0 l1 (x5_3 ++ [rdOf ByteArray.empty l1 x7_3]) (wrap64 (x7_3 + 1))) else (none)) = some r := by rw [if_pos rfl] at H; exact H
                        clear H
                        have H := H1
                        clear H1
                        by_cases c23 : x5_3.length < 8796093022208
                        · rw [if_pos c23] at H
                          have LMc23 := Aside0.mk c23
                          clear c23
                          obtain ⟨y288, hy288⟩ : ∃ y_ : List ByteArray, y_ = (x5_3 ++ [rdOf ByteArray.empty l1 x7_3]) := ⟨_, rfl⟩
                          replace H : (aquiferref06_Meet.l1 k3 l0 l1 y288 (wrap64 (x7_3 + 1))) = some r := by first | (rw [hy288]; with_reducible exact H) | (have H2_ := (Option.bind_some _ _).symm.trans H; rw [hy288]; with_reducible exact H2_) | (have H2_ := (Option.bind_some _ _).symm.trans H; with_reducible exact H2_) | with_reducible exact H | (rw [hy288]; exact H) | exact H
                          have Ny288 := Aside0.mk hy288
                          clear hy288
                          have H' := Aside0.mk H
                          clear H
                          have p285 : 0 ≤ (x7_3 : Int) := of_decide_eq_true (by first | (with_reducible assumption) | assumption)
                          have q285 : x7_3 < (l1.length : Int) := of_decide_eq_true (by first | (with_reducible assumption) | assumption)
                          obtain ⟨ad285, e285, hx285_0⟩ := Kd.at_string HR1.out x7_3 p285 q285
                          cases e285
                          replace hx285_0 := (HB.out.cell (World.block_lt_of_cell? w _ hx285_0)).trans hx285_0
                          replace p285 := eq_true p285
                          replace q285 := eq_true q285
                          go_wp2_with (first | ((with_reducible refine gate_callee (f := 17) rfl ?_); refine goesL_ (some 46) rfl rfl Tryd.func17 (by kernel_rfl) rfl #[.slice A0 l0.length c0, .string (rdOf ByteArray.empty l1 x7_3)] rfl (by (try simp only [List.map_toArray, List.map_cons, List.map_nil]); first | done | rfl | (simp only [List.length_drop, List.length_take]; rfl)) ?_; (with_reducible refine (aquiferref06_Has.calls k3 _ _ l0 (rdOf ByteArray.empty l1 x7_3) true _ ?side1 ?side2 A21.out).mono ?_); (case side1 => exact CU (Kd.C_below HR0.out HB.out)); (case side2 => exact HC0.out); rintro e w24 ⟨rfl, hb⟩; refine ⟨_, rfl, ?_⟩; have n0_ := Aside0.mk (Kd.R_below (RU HO_5.out) hb); have n1_ := Aside0.mk (below_step (belU HB.out) hb); clear HO_5; clear HB; have HO_5 := n0_; have HB := n1_; clear n0_ n1_; (try clear hb); (try clear hb2); (try clear hk); (try clear hi); have p287 : 0 ≤ (x7_3 : Int) := of_decide_eq_true (by first | (with_reducible assumption) | assumption); have q287 : x7_3 < (l1.length : Int) := of_decide_eq_true (by first | (with_reducible assumption) | assumption); obtain ⟨ad287, e287, hx287_0⟩ := Kd.at_string HR1.out x7_3 p287 q287; obtain rfl : ad285 = ad287 := (by injection e287); replace hx287_0 := (HB.out.cell (World.block_lt_of_cell? w _ hx287_0)).trans hx287_0; replace p287 := eq_true p287; replace q287 := eq_true q287) | ((with_reducible refine gate_builtin (b := .append) (xs := #[.tmp 47, .tmp 52]) rfl ?_); at_builtin; refine Kd.R_append Kd.string (w0 := w) w.heap.size rfl (.tmp 47) (.tmp 52) 22 9 (.string ⟨#[]⟩) 16 rfl Tryd.underlying22 info9 rfl (by decide) (by omega) u5 x5_3 (rdOf ByteArray.empty l1 x7_3) [.string (rdOf ByteArray.empty l1 x7_3)] (fun _ => True) (fun _ => False) rfl rfl ?aP (fun _ hk => hk.elim) ?aF ?aO ?aB ?aS ?aL ?_; (case aP => exact rfl); (case aB => exact (belU HB.out)); (case aF => exact (fun _ _ => trivial)); (case aO => exact (RU HO_5.out)); (case aS => exact (sizU HB.out)); (case aL => have := LMc23.out; omega); intro v289 w25 ho hb hg hat; rw [← Ny288.out] at ho; have n0_ := Aside0.mk (hb); have n1_ := Aside0.mk (ho); clear HB; clear HO_5; have HB := n0_; have HO290 := n1_; clear n0_ n1_; clear ho hb hg hat))
                          go_roundg k3
                          case measure => have := HJ2.out; have := HK2.out; have := HK3.out; omega
                          case rel => exact ⟨(y288), (wrap64 (x7_3 + 1)), (by first | rfl | (simp; done) | (simp [*]; done)), H', ⟨by have := HJ2.out; have := HK2.out; have := HK3.out; omega⟩, ⟨RU HO290.out⟩, ⟨belU HB.out⟩⟩
                        · rw [if_neg c23] at H
                          exact absurd H (by simp)
                      · replace c22 := Bool.eq_false_iff.mpr c22
                        subst c22
                        have H1 : (aquiferref06_Meet.l1 k3 l0 l1 x5_3 (wrap64 (x7_3 + 1))) = some r := by rw [if_neg (show ¬ (false = true) by decide)] at H; exact H
                        clear H
                        have H := H1
                        clear H1
                        have H' := Aside0.mk H
                        clear H
                        have p285 : 0 ≤ (x7_3 : Int) := of_decide_eq_true (by first | (with_reducible assumption) | assumption)
                        have q285 : x7_3 < (l1.length : Int) := of_decide_eq_true (by first | (with_reducible assumption) | assumption)
                        obtain ⟨ad285, e285, hx285_0⟩ := Kd.at_string HR1.out x7_3 p285 q285
                        cases e285
                        replace hx285_0 := (HB.out.cell (World.block_lt_of_cell? w _ hx285_0)).trans hx285_0
                        replace p285 := eq_true p285
                        replace q285 := eq_true q285
                        go_wp2_with (first | ((with_reducible refine gate_callee (f := 17) rfl ?_); refine goesL_ (some 46) rfl rfl Tryd.func17 (by kernel_rfl) rfl #[.slice A0 l0.length c0, .string (rdOf ByteArray.empty l1 x7_3)] rfl (by (try simp only [List.map_toArray, List.map_cons, List.map_nil]); first | done | rfl | (simp only [List.length_drop, List.length_take]; rfl)) ?_; (with_reducible refine (aquiferref06_Has.calls k3 _ _ l0 (rdOf ByteArray.empty l1 x7_3) false _ ?side1 ?side2 A21.out).mono ?_); (case side1 => exact CU (Kd.C_below HR0.out HB.out)); (case side2 => exact HC0.out); rintro e w26 ⟨rfl, hb⟩; refine ⟨_, rfl, ?_⟩; have n0_ := Aside0.mk (Kd.R_below (RU HO_5.out) hb); have n1_ := Aside0.mk (below_step (belU HB.out) hb); clear HO_5; clear HB; have HO_5 := n0_; have HB := n1_; clear n0_ n1_; (try clear hb); (try clear hb2); (try clear hk); (try clear hi)))
                        go_roundg k3
                        case measure => have := HJ2.out; have := HK2.out; have := HK3.out; omega
                        case rel => exact ⟨(x5_3), (wrap64 (x7_3 + 1)), (by first | rfl | (simp; done) | (simp [*]; done)), H', ⟨by have := HJ2.out; have := HK2.out; have := HK3.out; omega⟩, ⟨RU HO_5.out⟩, ⟨belU HB.out⟩⟩
                    · rw [if_neg c20] at H
                      exact absurd H (by simp)
                  · rw [if_neg c19] at H
                    have c19b0 : decide (x7_3 < (l1.length : Int)) = false := decide_eq_false c19
                    clear c19
                    replace H := Option.bind_eq_some_iff.mp H
                    obtain ⟨t291, A270, H⟩ := H
                    replace H : (some t291) = some r := H
                    have A27 := Aside0.mk A270
                    clear A270
                    obtain rfl := Option.some.inj H
                    obtain ⟨Ao28, co28, eo28⟩ := Kd.R_slice HO_5.out
                    subst eo28
                    go_wp2_with (first | ((with_reducible refine gate_callee (f := 31) rfl ?_); refine goesL_ (some 55) rfl rfl Tryd.func31 (by kernel_rfl) rfl #[.slice Ao28 x5_3.length co28] rfl (by (try simp only [List.map_toArray, List.map_cons, List.map_nil]); first | done | rfl | (simp only [List.length_drop, List.length_take]; rfl)) ?_; (with_reducible refine (aquiferref06_reduce.calls k3 _ _ x5_3 t291 _ ?side1 ?side2 A27.out).mono ?_); (case side1 => exact CU (Kd.R_reads' HO_5.out).2.2); (case side2 => exact (Kd.R_reads' HO_5.out).2.1); rintro e w29 ⟨v292, rfl, ho0, hb⟩; refine ⟨_, rfl, ?_⟩; have n0_ := Aside0.mk (Kd.R_elder' (RU HO_5.out) (Kd.R_base ho0) hb); have n1_ := Aside0.mk (Kd.R_lower (Kd.R_new' ho0 (Kd.R_lt (RU HO_5.out))) (sizU HB.out)); have n2_ := Aside0.mk (below_step (belU HB.out) hb); clear HO_5; clear HB; have HO_5 := n0_; have HO293 := n1_; have HB := n2_; clear n0_ n1_ n2_; (try clear hb); (try clear hb2); (try clear hk); (try clear hi); (try clear ho0)))
                    go_ret
                    exact ⟨_, by first | rfl | (simp [errW_none, errW_some] <;> rfl) | (simp [*, errW_none, errW_some] <;> rfl), by (with_reducible repeat (first | apply Kd.R_alloc | apply Kd.R_drewN | apply Kd.R_drew)); exact Kd.R_mono HO293.out (fun _ hk => trivial), belU HB.out⟩

end Go.Proofs.YtkflalaocnghcaaDoor.Q

namespace Go.Proofs.YtkflalaocnghcaaDoor.Q
open Go.RowKit Go.Proofs.YtkflalaocnghcaaDoorW.PrintWords Go.Proofs.YtkflalaocnghcaaDoorW.PrintLast Go.Proofs.YtkflalaocnghcaaDoorW.PrintMore Go.Proofs.YtkflalaocnghcaaDoorK
attribute [local go_sem] max2_int min2_int max_two min_two max_three min_three max_four min_four   -- for this text's walks alone
attribute [local go_sem ↓] Go.Proofs.YtkflalaocnghcaaDoorK.isSome_setCell
set_option linter.unusedVariables false
set_option linter.unusedSimpArgs false

/-! ### aquiferref06_Text: function 25 -/
def aquiferref06_Text.l0 : Nat → List ByteArray → ByteArray → Int → Option (ByteArray × Int)
  | 0, _, _, _ => none
  | k + 1, x0, x4, x5 => if x5 < (x0.length : Int) then (if 0 ≤ x5 then (if x4.size + (rdOf ByteArray.empty x0 x5).size ≤ 9223372036854775807 then (if (x4 ++ (rdOf ByteArray.empty x0 x5)).size + 1 ≤ 9223372036854775807 then (aquiferref06_Text.l0 k x0 ((x4 ++ (rdOf ByteArray.empty x0 x5)) ++ (⟨#[10]⟩ : ByteArray)) (wrap64 (x5 + 1))) else (none)) else (none)) else (none)) else (some (x4, 0))
def aquiferref06_Text.f (k : Nat) (l0 : List ByteArray) : Option (ByteArray × Int) := (aquiferref06_May.f k l0).bind fun t351 => (if t351 = true then (aquiferref06_Text.l0 k l0 (⟨#[]⟩ : ByteArray) 0) else (some ((⟨#[]⟩ : ByteArray), 2)))
theorem aquiferref06_Text.mono_l : ∀ k, (∀ y0 y1 y2, LeO (aquiferref06_Text.l0 k y0 y1 y2) (aquiferref06_Text.l0 (k + 1) y0 y1 y2))
  | 0 => fun _ _ _ r h => by simp [aquiferref06_Text.l0] at h
  | k + 1 => by
    have ih0 := aquiferref06_Text.mono_l k
    · intro y0 y1 y2
      unfold aquiferref06_Text.l0
      repeat' first
      | (with_reducible exact ih0 _ _ _)
      | (with_reducible exact aquiferref06_May.mono _ _)
      | (with_reducible exact LeO.refl _)
      | (with_reducible exact LeO.none _)
      | (with_reducible refine LeO.ite ?_ ?_)
      | (with_reducible refine LeO.bind ?_ (fun _ => ?_))
      | exact ih0 _ _ _
      | exact aquiferref06_May.mono _ _
      | exact LeO.none _
      | refine LeO.ite ?_ ?_
      | refine LeO.bind ?_ (fun _ => ?_)
theorem aquiferref06_Text.mono : ∀ a0 k, LeO (aquiferref06_Text.f k a0) (aquiferref06_Text.f (k + 1) a0) := by
  intro a0 k
  have ih0 := aquiferref06_Text.mono_l k
  unfold aquiferref06_Text.f
  repeat' first
      | (with_reducible exact ih0 _ _ _)
      | (with_reducible exact aquiferref06_May.mono _ _)
      | (with_reducible exact LeO.refl _)
      | (with_reducible exact LeO.none _)
      | (with_reducible refine LeO.ite ?_ ?_)
      | (with_reducible refine LeO.bind ?_ (fun _ => ?_))
      | exact ih0 _ _ _
      | exact aquiferref06_May.mono _ _
      | exact LeO.none _
      | refine LeO.ite ?_ ?_
      | refine LeO.bind ?_ (fun _ => ?_)
set_option maxHeartbeats 8000000 in
set_option maxRecDepth 100000 in
theorem aquiferref06_Text.calls (k : Nat) (A0 : Option Addr) (c0 : Nat) (l0 : List ByteArray) (r1 : ByteArray) (r2 : Int) (w : World) (hr0 : Kd.C Kd.string w A0 l0.length l0) (hc0 : l0.length ≤ c0) (h : aquiferref06_Text.f k l0 = some (r1, r2)) :
    Calls Tryd.prog 25 #[.slice A0 l0.length c0] w fun e w' => e = .returned (.tuple #[.string r1, .int .i64 r2]) ∧ Below w.heap.size w w' := by
  have HR0 := Aside0.mk hr0
  have HC0 := Aside0.mk hc0
  clear hr0 hc0
  have HB := Aside0.mk (Below.refl w.heap.size w)
  have H : ((aquiferref06_May.f k l0).bind fun t351 => (if t351 = true then (aquiferref06_Text.l0 k l0 (⟨#[]⟩ : ByteArray) 0) else (some ((⟨#[]⟩ : ByteArray), 2)))) = some (r1, r2) := h
  clear h
  replace H := Option.bind_eq_some_iff.mp H
  obtain ⟨t351, A20, H⟩ := H
  replace H : (if t351 = true then (aquiferref06_Text.l0 k l0 (⟨#[]⟩ : ByteArray) 0) else (some ((⟨#[]⟩ : ByteArray), 2))) = some (r1, r2) := H
  have A2 := Aside0.mk A20
  clear A20
  by_cases c3 : t351 = true
  · subst c3
    have H1 : (aquiferref06_Text.l0 k l0 (⟨#[]⟩ : ByteArray) 0) = some (r1, r2) := by rw [if_pos rfl] at H; exact H
    clear H
    have H := H1
    clear H1
    have H' := Aside0.mk H
    clear H
    go_enter Tryd.func25, Tryd.ntmps25
    go_wp2_with (first | ((with_reducible refine gate_callee (f := 14) rfl ?_); refine goesL_ (some 7) rfl rfl Tryd.func14 (by kernel_rfl) rfl #[.slice A0 l0.length c0] rfl (by (try simp only [List.map_toArray, List.map_cons, List.map_nil]); first | done | rfl | (simp only [List.length_drop, List.length_take]; rfl)) ?_; (with_reducible refine (aquiferref06_May.calls k _ _ l0 true _ ?side1 ?side2 A2.out).mono ?_); (case side1 => exact CU HR0.out); (case side2 => exact HC0.out); rintro e w4 ⟨rfl, hb⟩; refine ⟨_, rfl, ?_⟩; have n0_ := Aside0.mk (below_step (belU HB.out) hb); clear HB; have HB := n0_; clear n0_; (try clear hb); (try clear hb2); (try clear hk); (try clear hi)))
    go_loopg [4, 5] k (fun kq v4 v5 w' => ∃ (x4_1 : ByteArray) (x5_1 : Int), v4 = .string x4_1 ∧ v5 = .int .i64 x5_1 ∧ Aside0 (aquiferref06_Text.l0 kq l0 x4_1 x5_1 = some (r1, r2)) ∧ Aside0 (kq ≤ k) ∧ Aside0 (Below w.heap.size w w'))
    case atStart => exact ⟨((⟨#[]⟩ : ByteArray)), (0), (by first | rfl | (simp; done) | (simp [*]; done)), (by first | rfl | (simp; done) | (simp [*]; done)), H', ⟨Nat.le_refl _⟩, ⟨belU HB.out⟩⟩
    case round =>
      clear H'
      try clear c1
      try clear c2
      try clear p2
      try clear c3
      obtain ⟨x4_1, x5_1, rfl, rfl, HA, HK1, HB⟩ := hrel
      cases gk with
      | zero => exact absurd HA.out (by simp [aquiferref06_Text.l0])
      | succ k1 =>
        have H := HA.out
        clear HA
        simp only [aquiferref06_Text.l0] at H
        by_cases c5 : x5_1 < (l0.length : Int)
        · rw [if_pos c5] at H
          have c5b0 : decide (x5_1 < (l0.length : Int)) = true := decide_eq_true c5
          clear c5
          by_cases c6 : 0 ≤ x5_1
          · rw [if_pos c6] at H
            have c6b0 : decide (0 ≤ x5_1) = true := decide_eq_true c6
            clear c6
            by_cases c7 : x4_1.size + (rdOf ByteArray.empty l0 x5_1).size ≤ 9223372036854775807
            · rw [if_pos c7] at H
              have c7b0 := eq_true c7
              have c7b1 : decide (x4_1.size + (rdOf ByteArray.empty l0 x5_1).size ≤ 9223372036854775807) = true := decide_eq_true c7
              try have c7b2 : (9223372036854775807 < x4_1.size + (rdOf ByteArray.empty l0 x5_1).size) = False := eq_false (Nat.not_lt.2 c7)
              by_cases c8 : (x4_1 ++ (rdOf ByteArray.empty l0 x5_1)).size + 1 ≤ 9223372036854775807
              · rw [if_pos c8] at H
                have c8b0 := eq_true c8
                have c8b1 : decide ((x4_1 ++ (rdOf ByteArray.empty l0 x5_1)).size + 1 ≤ 9223372036854775807) = true := decide_eq_true c8
                try have c8b2 : (9223372036854775807 < (x4_1 ++ (rdOf ByteArray.empty l0 x5_1)).size + 1) = False := eq_false (Nat.not_lt.2 c8)
                try have c8b3 : (9223372036854775807 < x4_1.size + ((rdOf ByteArray.empty l0 x5_1)).size + 1) = False := eq_false (by have h_ := c8; simp only [ByteArray.size_append] at h_; omega)
                have H' := Aside0.mk H
                clear H
                have p352 : 0 ≤ (x5_1 : Int) := of_decide_eq_true (by first | (with_reducible assumption) | assumption)
                have q352 : x5_1 < (l0.length : Int) := of_decide_eq_true (by first | (with_reducible assumption) | assumption)
                obtain ⟨ad352, e352, hx352_0⟩ := Kd.at_string HR0.out x5_1 p352 q352
                cases e352
                replace hx352_0 := (HB.out.cell (World.block_lt_of_cell? w _ hx352_0)).trans hx352_0
                replace p352 := eq_true p352
                replace q352 := eq_true q352
                go_wp2
                go_roundg k1
                case measure => have := HK1.out; omega
                case rel => exact ⟨((x4_1 ++ (rdOf ByteArray.empty l0 x5_1)) ++ (⟨#[10]⟩ : ByteArray)), (wrap64 (x5_1 + 1)), (by first | rfl | (simp; done) | (simp [*]; done)), (by first | rfl | (simp; done) | (simp [*]; done)), H', ⟨by have := HK1.out; omega⟩, ⟨belU HB.out⟩⟩
              · rw [if_neg c8] at H
                exact absurd H (by simp)
            · rw [if_neg c7] at H
              exact absurd H (by simp)
          · rw [if_neg c6] at H
            exact absurd H (by simp)
        · rw [if_neg c5] at H
          have c5b0 : decide (x5_1 < (l0.length : Int)) = false := decide_eq_false c5
          clear c5
          simp only [Option.some.injEq, Prod.mk.injEq] at H
          obtain ⟨rfl, rfl⟩ := H
          go_wp2
          go_ret2
          exact ⟨by first | rfl | (simp [errW_none, errW_some] <;> rfl) | (simp [*, errW_none, errW_some] <;> rfl), belU HB.out⟩
  · replace c3 := Bool.eq_false_iff.mpr c3
    subst c3
    have H1 : (some ((⟨#[]⟩ : ByteArray), 2)) = some (r1, r2) := by rw [if_neg (show ¬ (false = true) by decide)] at H; exact H
    clear H
    have H := H1
    clear H1
    simp only [Option.some.injEq, Prod.mk.injEq] at H
    obtain ⟨rfl, rfl⟩ := H
    go_enter Tryd.func25, Tryd.ntmps25
    go_wp2_with (first | ((with_reducible refine gate_callee (f := 14) rfl ?_); refine goesL_ (some 7) rfl rfl Tryd.func14 (by kernel_rfl) rfl #[.slice A0 l0.length c0] rfl (by (try simp only [List.map_toArray, List.map_cons, List.map_nil]); first | done | rfl | (simp only [List.length_drop, List.length_take]; rfl)) ?_; (with_reducible refine (aquiferref06_May.calls k _ _ l0 false _ ?side1 ?side2 A2.out).mono ?_); (case side1 => exact CU HR0.out); (case side2 => exact HC0.out); rintro e w9 ⟨rfl, hb⟩; refine ⟨_, rfl, ?_⟩; have n0_ := Aside0.mk (below_step (belU HB.out) hb); clear HB; have HB := n0_; clear n0_; (try clear hb); (try clear hb2); (try clear hk); (try clear hi)))
    go_ret2
    exact ⟨by first | rfl | (simp [errW_none, errW_some] <;> rfl) | (simp [*, errW_none, errW_some] <;> rfl), belU HB.out⟩

end Go.Proofs.YtkflalaocnghcaaDoor.Q

namespace Go.Proofs.YtkflalaocnghcaaDoor.Q
open Go.RowKit Go.Proofs.YtkflalaocnghcaaDoorW.PrintWords Go.Proofs.YtkflalaocnghcaaDoorW.PrintLast Go.Proofs.YtkflalaocnghcaaDoorW.PrintMore Go.Proofs.YtkflalaocnghcaaDoorK
attribute [local go_sem] max2_int min2_int max_two min_two max_three min_three max_four min_four   -- for this text's walks alone
attribute [local go_sem ↓] Go.Proofs.YtkflalaocnghcaaDoorK.isSome_setCell
set_option linter.unusedVariables false
set_option linter.unusedSimpArgs false

/-! ### aquiferref06_Parse: function 27 -/
def aquiferref06_Parse.l0 : Nat → ByteArray → List ByteArray → ByteArray → Int → Option (List ByteArray × Int)
  | 0, _, _, _, _ => none
  | k + 1, x0, x4, x5, x6 => if x6 < (x0.size : Int) then (if 0 ≤ x6 then (if (bt x0 x6) = 10 then (if x4.length < 8796093022208 then (aquiferref06_Parse.l0 k x0 (x4 ++ [x5]) (⟨#[]⟩ : ByteArray) (wrap64 (x6 + 1))) else (none)) else (if x6 ≤ (wrap64 (x6 + 1)) then (if (wrap64 (x6 + 1)) ≤ (x0.size : Int) then (if x5.size + (x0.extract (x6 : Int).toNat ((wrap64 (x6 + 1)) : Int).toNat).size ≤ 9223372036854775807 then (aquiferref06_Parse.l0 k x0 x4 (x5 ++ (x0.extract (x6 : Int).toNat ((wrap64 (x6 + 1)) : Int).toNat)) (wrap64 (x6 + 1))) else (none)) else (none)) else (none))) else (none)) else (if x5.toList = ([] : List UInt8) then ((aquiferref06_May.f k x4).bind fun t356 => (if t356 = true then (some (x4, 0)) else (some (([] : List ByteArray), 5)))) else (some (([] : List ByteArray), 5)))
def aquiferref06_Parse.f (k : Nat) (a0 : ByteArray) : Option (List ByteArray × Int) := aquiferref06_Parse.l0 k a0 ([] : List ByteArray) (⟨#[]⟩ : ByteArray) 0
theorem aquiferref06_Parse.mono_l : ∀ k, (∀ y0 y1 y2 y3, LeO (aquiferref06_Parse.l0 k y0 y1 y2 y3) (aquiferref06_Parse.l0 (k + 1) y0 y1 y2 y3))
  | 0 => fun _ _ _ _ r h => by simp [aquiferref06_Parse.l0] at h
  | k + 1 => by
    have ih0 := aquiferref06_Parse.mono_l k
    · intro y0 y1 y2 y3
      unfold aquiferref06_Parse.l0
      repeat' first
      | (with_reducible exact ih0 _ _ _ _)
      | (with_reducible exact aquiferref06_May.mono _ _)
      | (with_reducible exact LeO.refl _)
      | (with_reducible exact LeO.none _)
      | (with_reducible refine LeO.ite ?_ ?_)
      | (with_reducible refine LeO.bind ?_ (fun _ => ?_))
      | exact ih0 _ _ _ _
      | exact aquiferref06_May.mono _ _
      | exact LeO.none _
      | refine LeO.ite ?_ ?_
      | refine LeO.bind ?_ (fun _ => ?_)
theorem aquiferref06_Parse.mono : ∀ a0 k, LeO (aquiferref06_Parse.f k a0) (aquiferref06_Parse.f (k + 1) a0) := by
  intro a0 k
  have ih0 := aquiferref06_Parse.mono_l k
  unfold aquiferref06_Parse.f
  repeat' first
      | (with_reducible exact ih0 _ _ _ _)
      | (with_reducible exact aquiferref06_May.mono _ _)
      | (with_reducible exact LeO.refl _)
      | (with_reducible exact LeO.none _)
      | (with_reducible refine LeO.ite ?_ ?_)
      | (with_reducible refine LeO.bind ?_ (fun _ => ?_))
      | exact ih0 _ _ _ _
      | exact aquiferref06_May.mono _ _
      | exact LeO.none _
      | refine LeO.ite ?_ ?_
      | refine LeO.bind ?_ (fun _ => ?_)
set_option maxHeartbeats 8000000 in
set_option maxRecDepth 100000 in
theorem aquiferref06_Parse.calls (k : Nat) (a0 : ByteArray) (r1 : List ByteArray) (r2 : Int) (w : World) (h : aquiferref06_Parse.f k a0 = some (r1, r2)) :
    Calls Tryd.prog 27 #[.string a0] w fun e w' => ∃ v0_ : Value, e = .returned (.tuple #[v0_, .int .i64 r2]) ∧ Kd.R Kd.string 9 w' w.heap.size (fun _ => True) v0_ r1 ∧ Below w.heap.size w w' := by
  have HB := Aside0.mk (Below.refl w.heap.size w)
  have H : (aquiferref06_Parse.l0 k a0 ([] : List ByteArray) (⟨#[]⟩ : ByteArray) 0) = some (r1, r2) := h
  clear h
  have H' := Aside0.mk H
  clear H
  go_enter Tryd.func27, Tryd.ntmps27
  go_wp2
  go_loopg [4, 5, 6] k (fun kq v4 v5 v6 w' => ∃ (x4_1 : List ByteArray) (x5_1 : ByteArray) (x6_1 : Int), v5 = .string x5_1 ∧ v6 = .int .i64 x6_1 ∧ Aside0 (aquiferref06_Parse.l0 kq a0 x4_1 x5_1 x6_1 = some (r1, r2)) ∧ Aside0 (kq ≤ k) ∧ Aside0 (Kd.R Kd.string 9 w' w.heap.size (fun _ => True) v4 x4_1) ∧ Aside0 (Below w.heap.size w w'))
  case atStart => exact ⟨(([] : List ByteArray)), ((⟨#[]⟩ : ByteArray)), (0), (by first | rfl | (simp; done) | (simp [*]; done)), (by first | rfl | (simp; done) | (simp [*]; done)), H', ⟨Nat.le_refl _⟩, ⟨by first | exact Kd.R_nil _ _ _ _ _ | exact Kd.N_nil _ _ _ _ _ | exact Kd.V_nil _ _ _ _ _ | exact Kd.Q_nil _ _ _ _ _ | exact Kd.S_nil _ _ _ _ _⟩, ⟨belU HB.out⟩⟩
  case round =>
    clear H'
    obtain ⟨x4_1, x5_1, x6_1, rfl, rfl, HA, HK1, HO_4, HB⟩ := hrel
    cases gk with
    | zero => exact absurd HA.out (by simp [aquiferref06_Parse.l0])
    | succ k1 =>
      have H := HA.out
      clear HA
      simp only [aquiferref06_Parse.l0] at H
      by_cases c2 : x6_1 < (a0.size : Int)
      · rw [if_pos c2] at H
        have c2b0 : decide (x6_1 < (a0.size : Int)) = true := decide_eq_true c2
        clear c2
        by_cases c3 : 0 ≤ x6_1
        · rw [if_pos c3] at H
          have c3b0 : decide (0 ≤ x6_1) = true := decide_eq_true c3
          clear c3
          by_cases c5 : (bt a0 x6_1) = 10
          · rw [if_pos c5] at H
            have c5b0 : ((bt a0 x6_1) == 10) = true := beq_iff_eq.mpr c5
            have c5b1 : ((bt a0 x6_1) != 10) = false := bne_eq_false_iff_eq.mpr c5
            clear c5
            by_cases c6 : x4_1.length < 8796093022208
            · rw [if_pos c6] at H
              have LMc6 := Aside0.mk c6
              clear c6
              obtain ⟨y353, hy353⟩ : ∃ y_ : List ByteArray, y_ = (x4_1 ++ [x5_1]) := ⟨_, rfl⟩
              replace H : (aquiferref06_Parse.l0 k1 a0 y353 (⟨#[]⟩ : ByteArray) (wrap64 (x6_1 + 1))) = some (r1, r2) := by first | (rw [hy353]; with_reducible exact H) | (have H2_ := (Option.bind_some _ _).symm.trans H; rw [hy353]; with_reducible exact H2_) | (have H2_ := (Option.bind_some _ _).symm.trans H; with_reducible exact H2_) | with_reducible exact H | (rw [hy353]; exact H) | exact H
              have Ny353 := Aside0.mk hy353
              clear hy353
              have H' := Aside0.mk H
              clear H
              have p4 : 0 ≤ (x6_1 : Int) := of_decide_eq_true (by first | (with_reducible assumption) | assumption)
              have q4 : x6_1 < (a0.size : Int) := of_decide_eq_true (by first | (with_reducible assumption) | assumption)
              have hx4 := bt_at a0 x6_1
              replace p4 := eq_true p4
              replace q4 := eq_true q4
              go_wp2_with (first | ((with_reducible refine gate_builtin (b := .append) (xs := #[.tmp 17, .tmp 19]) rfl ?_); at_builtin; refine Kd.R_append Kd.string (w0 := w) w.heap.size rfl (.tmp 17) (.tmp 19) 22 9 (.string ⟨#[]⟩) 16 rfl Tryd.underlying22 info9 rfl (by decide) (by omega) u4 x4_1 x5_1 [.string x5_1] (fun _ => True) (fun _ => False) rfl rfl ?aP (fun _ hk => hk.elim) ?aF ?aO ?aB ?aS ?aL ?_; (case aP => exact rfl); (case aB => exact (belU HB.out)); (case aF => exact (fun _ _ => trivial)); (case aO => exact (RU HO_4.out)); (case aS => exact (sizU HB.out)); (case aL => have := LMc6.out; omega); intro v354 w7 ho hb hg hat; rw [← Ny353.out] at ho; have n0_ := Aside0.mk (hb); have n1_ := Aside0.mk (ho); clear HB; clear HO_4; have HB := n0_; have HO355 := n1_; clear n0_ n1_; clear ho hb hg hat))
              go_roundg k1
              case measure => have := HK1.out; omega
              case rel => exact ⟨(y353), ((⟨#[]⟩ : ByteArray)), (wrap64 (x6_1 + 1)), (by first | rfl | (simp; done) | (simp [*]; done)), (by first | rfl | (simp; done) | (simp [*]; done)), H', ⟨by have := HK1.out; omega⟩, ⟨RU HO355.out⟩, ⟨belU HB.out⟩⟩
            · rw [if_neg c6] at H
              exact absurd H (by simp)
          · rw [if_neg c5] at H
            have c5b0 : ((bt a0 x6_1) == 10) = false := beq_eq_false_iff_ne.mpr c5
            have c5b1 : ((bt a0 x6_1) != 10) = true := bne_iff_ne.mpr c5
            have c8b0 := eq_true (of_decide_eq_true (by first | (with_reducible assumption) | assumption) : 0 ≤ x6_1)
            by_cases c9 : x6_1 ≤ (wrap64 (x6_1 + 1))
            · rw [if_pos c9] at H
              have c9b0 := eq_true c9
              have c9b1 : decide (x6_1 ≤ (wrap64 (x6_1 + 1))) = true := decide_eq_true c9
              by_cases c10 : (wrap64 (x6_1 + 1)) ≤ (a0.size : Int)
              · rw [if_pos c10] at H
                have c10b0 := eq_true c10
                have c10b1 : decide ((wrap64 (x6_1 + 1)) ≤ (a0.size : Int)) = true := decide_eq_true c10
                by_cases c11 : x5_1.size + (a0.extract (x6_1 : Int).toNat ((wrap64 (x6_1 + 1)) : Int).toNat).size ≤ 9223372036854775807
                · rw [if_pos c11] at H
                  have c11b0 := eq_true c11
                  have c11b1 : decide (x5_1.size + (a0.extract (x6_1 : Int).toNat ((wrap64 (x6_1 + 1)) : Int).toNat).size ≤ 9223372036854775807) = true := decide_eq_true c11
                  try have c11b2 : (9223372036854775807 < x5_1.size + (a0.extract (x6_1 : Int).toNat ((wrap64 (x6_1 + 1)) : Int).toNat).size) = False := eq_false (Nat.not_lt.2 c11)
                  have H' := Aside0.mk H
                  clear H
                  have p4 : 0 ≤ (x6_1 : Int) := of_decide_eq_true (by first | (with_reducible assumption) | assumption)
                  have q4 : x6_1 < (a0.size : Int) := of_decide_eq_true (by first | (with_reducible assumption) | assumption)
                  have hx4 := bt_at a0 x6_1
                  replace p4 := eq_true p4
                  replace q4 := eq_true q4
                  go_wp2
                  go_roundg k1
                  case measure => have := HK1.out; omega
                  case rel => exact ⟨(x4_1), (x5_1 ++ (a0.extract (x6_1 : Int).toNat ((wrap64 (x6_1 + 1)) : Int).toNat)), (wrap64 (x6_1 + 1)), (by first | rfl | (simp; done) | (simp [*]; done)), (by first | rfl | (simp; done) | (simp [*]; done)), H', ⟨by have := HK1.out; omega⟩, ⟨RU HO_4.out⟩, ⟨belU HB.out⟩⟩
                · rw [if_neg c11] at H
                  exact absurd H (by simp)
              · rw [if_neg c10] at H
                exact absurd H (by simp)
            · rw [if_neg c9] at H
              exact absurd H (by simp)
        · rw [if_neg c3] at H
          exact absurd H (by simp)
      · rw [if_neg c2] at H
        have c2b0 : decide (x6_1 < (a0.size : Int)) = false := decide_eq_false c2
        clear c2
        by_cases c12 : x5_1.toList = ([] : List UInt8)
        · rw [if_pos c12] at H
          have c12b0 : (x5_1.toList == ([] : List UInt8)) = true := beq_iff_eq.mpr c12
          have c12b1 : (x5_1.toList != ([] : List UInt8)) = false := bne_eq_false_iff_eq.mpr c12
          clear c12
          replace H := Option.bind_eq_some_iff.mp H
          obtain ⟨t356, A130, H⟩ := H
          replace H : (if t356 = true then (some (x4_1, 0)) else (some (([] : List ByteArray), 5))) = some (r1, r2) := H
          have A13 := Aside0.mk A130
          clear A130
          by_cases c14 : t356 = true
          · subst c14
            have H1 : (some (x4_1, 0)) = some (r1, r2) := by rw [if_pos rfl] at H; exact H
            clear H
            have H := H1
            clear H1
            simp only [Option.some.injEq, Prod.mk.injEq] at H
            obtain ⟨rfl, rfl⟩ := H
            obtain ⟨Ao15, co15, eo15⟩ := Kd.R_slice HO_4.out
            subst eo15
            go_wp2_with (first | (go_at_call 14; (with_reducible refine (aquiferref06_May.calls k1 _ _ x4_1 true _ ?side1 ?side2 A13.out).mono ?_); (case side1 => exact CU (Kd.R_reads' HO_4.out).2.2); (case side2 => exact (Kd.R_reads' HO_4.out).2.1); rintro e w16 ⟨rfl, hb⟩; have n0_ := Aside0.mk (Kd.R_below (RU HO_4.out) hb); have n1_ := Aside0.mk (below_step (belU HB.out) hb); clear HO_4; clear HB; have HO_4 := n0_; have HB := n1_; clear n0_ n1_; (try clear hb); (try clear hb2); (try clear hk); (try clear hi)))
            go_ret2
            exact ⟨_, by first | rfl | (simp [errW_none, errW_some] <;> rfl) | (simp [*, errW_none, errW_some] <;> rfl), by (with_reducible repeat (first | apply Kd.R_alloc | apply Kd.R_drewN | apply Kd.R_drew)); exact HO_4.out, belU HB.out⟩
          · replace c14 := Bool.eq_false_iff.mpr c14
            subst c14
            have H1 : (some (([] : List ByteArray), 5)) = some (r1, r2) := by rw [if_neg (show ¬ (false = true) by decide)] at H; exact H
            clear H
            have H := H1
            clear H1
            simp only [Option.some.injEq, Prod.mk.injEq] at H
            obtain ⟨rfl, rfl⟩ := H
            obtain ⟨Ao17, co17, eo17⟩ := Kd.R_slice HO_4.out
            subst eo17
            go_wp2_with (first | (go_at_call 14; (with_reducible refine (aquiferref06_May.calls k1 _ _ x4_1 false _ ?side1 ?side2 A13.out).mono ?_); (case side1 => exact CU (Kd.R_reads' HO_4.out).2.2); (case side2 => exact (Kd.R_reads' HO_4.out).2.1); rintro e w18 ⟨rfl, hb⟩; have n0_ := Aside0.mk (Kd.R_below (RU HO_4.out) hb); have n1_ := Aside0.mk (below_step (belU HB.out) hb); clear HO_4; clear HB; have HO_4 := n0_; have HB := n1_; clear n0_ n1_; (try clear hb); (try clear hb2); (try clear hk); (try clear hi)))
            go_ret2
            exact ⟨_, by first | rfl | (simp [errW_none, errW_some] <;> rfl) | (simp [*, errW_none, errW_some] <;> rfl), by first | exact Kd.R_nil _ _ _ _ _ | exact Kd.N_nil _ _ _ _ _ | exact Kd.V_nil _ _ _ _ _ | exact Kd.Q_nil _ _ _ _ _ | exact Kd.S_nil _ _ _ _ _, belU HB.out⟩
        · rw [if_neg c12] at H
          have c12b0 : (x5_1.toList == ([] : List UInt8)) = false := beq_eq_false_iff_ne.mpr c12
          have c12b1 : (x5_1.toList != ([] : List UInt8)) = true := bne_iff_ne.mpr c12
          simp only [Option.some.injEq, Prod.mk.injEq] at H
          obtain ⟨rfl, rfl⟩ := H
          go_wp2
          go_ret2
          exact ⟨_, by first | rfl | (simp [errW_none, errW_some] <;> rfl) | (simp [*, errW_none, errW_some] <;> rfl), by first | exact Kd.R_nil _ _ _ _ _ | exact Kd.N_nil _ _ _ _ _ | exact Kd.V_nil _ _ _ _ _ | exact Kd.Q_nil _ _ _ _ _ | exact Kd.S_nil _ _ _ _ _, belU HB.out⟩

end Go.Proofs.YtkflalaocnghcaaDoor.Q

namespace Go.Proofs.YtkflalaocnghcaaDoor.Q
open Go Go.Proofs Go.Shelf Go.RowKit Go.Lib Go.Sort Go.Proofs.YtkflalaocnghcaaDoorP Go.Proofs.YtkflalaocnghcaaDoorK Go.Proofs.YtkflalaocnghcaaDoorW.PrintWords Go.Proofs.YtkflalaocnghcaaDoorW.PrintLast Go.Proofs.YtkflalaocnghcaaDoorW.PrintMore
set_option linter.unusedSimpArgs false
set_option linter.unusedVariables false
/-! ### The document's Union, Meet -/
theorem refunion {a b : List ByteArray} (ha : shortP a = true) (hb : shortP b = true) (la : a.length ≤ 20) (lb : b.length ≤ 20) (k : Nat) (hk : 20000 ≤ k) : aquiferref06_Union.f k a b = some (unionS a b) := by
  have fa : (a.length + 3) * (a.length + 1) ≤ 23 * 21 := Nat.mul_le_mul (by omega) (by omega)
  have fb : (b.length + 3) * (b.length + 1) ≤ 23 * 21 := Nat.mul_le_mul (by omega) (by omega)
  have fab : ((a ++ b).length + 3) * ((a ++ b).length + 1) ≤ 43 * 41 := by rw [List.length_append]; exact Nat.mul_le_mul (by omega) (by omega)
  unfold aquiferref06_Union.f unionS
  rw [refmay ha (by omega) k (by omega), Option.bind_some]
  by_cases h1 : mayS a = true
  · rw [if_pos h1, refmay hb (by omega) k (by omega), Option.bind_some]
    by_cases h2 : mayS b = true
    · rw [if_pos h2, if_pos ⟨h1, h2⟩, Option.bind_some, if_pos (by simp; omega), Option.bind_some, List.nil_append, if_pos (by omega), refmake (shortP_app ha hb (by omega)) (by rw [List.length_append]; omega) k (by omega), Option.bind_some]
    · rw [if_neg h2, if_neg (fun h => h2 h.2)]
  · rw [if_neg h1, if_neg (fun h => h1 h.1)]
def inB (a b : List ByteArray) : List ByteArray := a.filter fun p => hasS b p
theorem meet_l1 (a b : List ByteArray) (ha : shortP a = true) (hb : shortP b = true) (la : a.length ≤ 16) (d : Nat) : ∀ (i k : Nat) (out : List ByteArray), i + d = b.length → 10000 + d < k → out.length + d ≤ 32 → Dirs b → Dirs out → aquiferref06_Meet.l1 k a b out (i : Int) = some (reduceS (out ++ inB (b.drop i) a)) := by
  obtain ⟨hl, hm⟩ := shortP_mem hb
  induction d with
  | zero =>
    intro i k out h hk ho db dout
    obtain ⟨k, rfl⟩ : ∃ q, k = q + 1 := ⟨k - 1, by omega⟩
    have hsh : shortP out = true := shortP_mk (by omega) (fun p hp => by have := (isP_open (dout p hp).1).1; omega)
    have hf : (out.length + 3) * (out.length + 1) ≤ 35 * 33 := Nat.mul_le_mul (by omega) (by omega)
    unfold aquiferref06_Meet.l1
    rw [if_neg (by omega), List.drop_of_length_le (by omega), refreduce hsh dout (by omega) k (by omega), Option.bind_some]
    simp [inB]
  | succ d ih =>
    intro i k out h hk ho db dout
    obtain ⟨k, rfl⟩ : ∃ q, k = q + 1 := ⟨k - 1, by omega⟩
    have hi : i < b.length := by omega
    have hbi := List.getElem_mem hi
    unfold aquiferref06_Meet.l1
    rw [if_pos (by omega), if_pos (by omega), rdB b i hi, refhas a _ ha (hm _ hbi) k (by omega), Option.bind_some, wr1 i (by omega), List.drop_eq_getElem_cons hi]
    unfold inB
    rw [List.filter_cons]
    by_cases hh : hasS a b[i] = true
    · rw [if_pos hh, if_pos hh, if_pos (by omega), ih (i + 1) k _ (by omega) (by omega) (by simp; omega) db (fun x hx => (List.mem_append.1 hx).elim (dout x) (fun e => by rw [List.mem_singleton.1 e]; exact db _ hbi)), List.append_assoc]
      rfl
    · rw [if_neg hh, if_neg hh, ih (i + 1) k _ (by omega) (by omega) (by omega) db dout]
      rfl
theorem meet_l0 (a b : List ByteArray) (ha : shortP a = true) (hb : shortP b = true) (la : a.length ≤ 16) (lb : b.length ≤ 16) (d : Nat) : ∀ (i k : Nat) (out : List ByteArray), i + d = a.length → 11000 + d < k → out.length + d ≤ 16 → Dirs a → Dirs b → Dirs out → aquiferref06_Meet.l0 k a b out (i : Int) = some (reduceS (out ++ inB (a.drop i) b ++ inB b a)) := by
  obtain ⟨hl, hm⟩ := shortP_mem ha
  induction d with
  | zero =>
    intro i k out h hk ho da db dout
    obtain ⟨k, rfl⟩ : ∃ q, k = q + 1 := ⟨k - 1, by omega⟩
    unfold aquiferref06_Meet.l0
    rw [if_neg (by omega), List.drop_of_length_le (by omega)]
    have := meet_l1 a b ha hb la b.length 0 k out (by omega) (by omega) (by omega) db dout
    rw [List.drop_zero] at this
    rw [show inB [] b = [] from rfl, List.append_nil]
    exact this
  | succ d ih =>
    intro i k out h hk ho da db dout
    obtain ⟨k, rfl⟩ : ∃ q, k = q + 1 := ⟨k - 1, by omega⟩
    have hi : i < a.length := by omega
    have hai := List.getElem_mem hi
    have hcons : inB (a[i] :: a.drop (i + 1)) b = if hasS b a[i] = true then a[i] :: inB (a.drop (i + 1)) b else inB (a.drop (i + 1)) b := by
      unfold inB
      rw [List.filter_cons]
    unfold aquiferref06_Meet.l0
    rw [if_pos (by omega), if_pos (by omega), rdB a i hi, refhas b _ hb (hm _ hai) k (by omega), Option.bind_some, wr1 i (by omega), List.drop_eq_getElem_cons hi, hcons]
    by_cases hh : hasS b a[i] = true
    · rw [if_pos hh, if_pos hh, if_pos (by omega), ih (i + 1) k _ (by omega) (by omega) (by simp; omega) da db (fun x hx => (List.mem_append.1 hx).elim (dout x) (fun e => by rw [List.mem_singleton.1 e]; exact da _ hai))]
      simp
    · rw [if_neg hh, if_neg hh, ih (i + 1) k _ (by omega) (by omega) (by omega) da db dout]
theorem mem_meetL (a b : List ByteArray) (x : ByteArray) : x ∈ meetL a b ↔ ∃ p ∈ a, ∃ q ∈ b, (withinS p q = true ∧ x = q) ∨ (¬ withinS p q = true ∧ withinS q p = true ∧ x = p) := by
  unfold meetL meetP
  rw [List.mem_flatten]
  constructor
  · rintro ⟨m, hm, hx⟩
    obtain ⟨p, hp, rfl⟩ := List.mem_map.1 hm
    obtain ⟨q, hq, he⟩ := List.mem_filterMap.1 hx
    refine ⟨p, hp, q, hq, ?_⟩
    split at he
    · rename_i h1; cases he; exact .inl ⟨h1, rfl⟩
    · rename_i h1
      split at he
      · rename_i h2; cases he; exact .inr ⟨h1, h2, rfl⟩
      · cases he
  · rintro ⟨p, hp, q, hq, h⟩
    refine ⟨_, List.mem_map_of_mem hp, List.mem_filterMap.2 ⟨q, hq, ?_⟩⟩
    rcases h with ⟨h1, rfl⟩ | ⟨h1, h2, rfl⟩
    · rw [if_pos h1]
    · rw [if_neg h1, if_pos h2]
theorem meetL_dirs {a b : List ByteArray} (da : Dirs a) (db : Dirs b) : Dirs (meetL a b) := by
  intro x hx
  obtain ⟨p, hp, q, hq, h⟩ := (mem_meetL a b x).1 hx
  rcases h with ⟨_, rfl⟩ | ⟨_, _, rfl⟩
  · exact db _ hq
  · exact da _ hp
/-- Without the order of the two questions. -/
theorem mem_meet {a b : List ByteArray} (da : Dirs a) (db : Dirs b) (x : ByteArray) : x ∈ meetL a b ↔ (x ∈ b ∧ ∃ p ∈ a, withinS p x = true) ∨ (x ∈ a ∧ ∃ q ∈ b, withinS q x = true) := by
  rw [mem_meetL]
  constructor
  · rintro ⟨p, hp, q, hq, h⟩
    rcases h with ⟨h1, rfl⟩ | ⟨_, h2, rfl⟩
    · exact .inl ⟨hq, p, hp, h1⟩
    · exact .inr ⟨hp, q, hq, h2⟩
  · rintro (⟨hx, p, hp, h⟩ | ⟨hx, q, hq, h⟩)
    · exact ⟨p, hp, x, hx, .inl ⟨h, rfl⟩⟩
    · by_cases h1 : withinS x q = true
      · have := within_anti (da x hx) (db q hq) h1 h
        subst this
        exact ⟨x, hx, x, hq, .inl ⟨h1, rfl⟩⟩
      · exact ⟨x, hx, q, hq, .inr ⟨h1, h, rfl⟩⟩
theorem mem_inB {a b : List ByteArray} (da : Dirs a) (x : ByteArray) : x ∈ inB a b ↔ x ∈ a ∧ ∃ q ∈ b, withinS q x = true := by
  unfold inB
  rw [List.mem_filter]
  constructor
  · rintro ⟨h1, h2⟩
    rw [hasS_cov (da x h1).1, cov_iff] at h2
    exact ⟨h1, h2⟩
  · rintro ⟨h1, h2⟩
    exact ⟨h1, by rw [hasS_cov (da x h1).1, cov_iff]; exact h2⟩
theorem refmeet {a b : List ByteArray} (ha : shortP a = true) (hb : shortP b = true) (la : a.length ≤ 20) (lb : b.length ≤ 20) (k : Nat) (hk : 20000 ≤ k) : aquiferref06_Meet.f k a b = some (meetS a b) := by
  obtain ⟨k, rfl⟩ : ∃ q, k = q + 1 := ⟨k - 1, by omega⟩
  have hj : ∀ t, aquiferref06_Meet.j0 (k + 1) a b t = if t = true then some [] else aquiferref06_Meet.l0 k a b [] 0 := fun _ => rfl
  have fa : (a.length + 3) * (a.length + 1) ≤ 23 * 21 := Nat.mul_le_mul (by omega) (by omega)
  have fb : (b.length + 3) * (b.length + 1) ≤ 23 * 21 := Nat.mul_le_mul (by omega) (by omega)
  unfold aquiferref06_Meet.f meetS
  rw [refmay ha (by omega) _ (by omega), Option.bind_some]
  by_cases h1 : mayS a = true
  · rw [if_pos h1, refmay hb (by omega) _ (by omega), Option.bind_some, hj]
    by_cases h2 : mayS b = true
    · obtain ⟨da, _, l1⟩ := may_open h1
      obtain ⟨db, _, l2⟩ := may_open h2
      have := meet_l0 a b ha hb l1 l2 a.length 0 k [] (by omega) (by omega) (by simp; omega) da db (fun x hx => by simp at hx)
      rw [List.drop_zero, List.nil_append] at this
      rw [if_neg (by rw [h2]; decide), if_pos ⟨h1, h2⟩]
      refine this.trans ?_
      congr 1
      refine (reduce_set (meetL_dirs da db) (fun x => ?_)).symm
      rw [mem_meet da db, List.mem_append, mem_inB da, mem_inB db, or_comm]
    · rw [if_pos (by simp [h2]), if_neg (fun h => h2 h.2)]
  · rw [if_neg h1, if_neg (fun h => h1 h.1), hj, if_pos rfl]
/-! ### The document's Text, Parse -/
theorem text_loop (l : List ByteArray) (hs : shortP l = true) (hl : l.length ≤ 16) (d : Nat) : ∀ (i k : Nat) (out : ByteArray), i + d = l.length → d < k → out.data.toList = textL (l.take i) → ∃ r, aquiferref06_Text.l0 k l out (i : Int) = some (r, 0) ∧ r.data.toList = textL l := by
  obtain ⟨_, hm⟩ := shortP_mem hs
  induction d with
  | zero =>
    intro i k out h hk ho
    obtain ⟨k, rfl⟩ : ∃ q, k = q + 1 := ⟨k - 1, by omega⟩
    unfold aquiferref06_Text.l0
    rw [if_neg (by omega)]
    exact ⟨out, rfl, by rw [ho, List.take_of_length_le (by omega)]⟩
  | succ d ih =>
    intro i k out h hk ho
    obtain ⟨k, rfl⟩ : ∃ q, k = q + 1 := ⟨k - 1, by omega⟩
    have hi : i < l.length := by omega
    have h1 := textL_len (l.take i) (fun p hp => hm p (List.mem_of_mem_take hp))
    have h2 : (l.take i).length ≤ 16 := by rw [List.length_take]; omega
    have h3 : out.size = (textL (l.take i)).length := by rw [← ho]; rfl
    have h4 := hm _ (List.getElem_mem hi)
    unfold aquiferref06_Text.l0
    rw [if_pos (by omega), if_pos (by omega), rdB l i hi, if_pos (by omega), if_pos (by rw [ByteArray.size_append]; omega), wr1 i (by omega)]
    refine ih (i + 1) k _ (by omega) (by omega) ?_
    rw [textL_take l i hi, ByteArray.data_append, ByteArray.data_append, Array.toList_append, Array.toList_append, ho, List.append_assoc]
theorem reftext {l : List ByteArray} (hs : shortP l = true) (hl : l.length ≤ 20) (k : Nat) (hk : 20000 ≤ k) : aquiferref06_Text.f k l = some (textS l) := by
  have fa : (l.length + 3) * (l.length + 1) ≤ 23 * 21 := Nat.mul_le_mul (by omega) (by omega)
  unfold aquiferref06_Text.f textS
  rw [refmay hs (by omega) k (by omega), Option.bind_some]
  by_cases h1 : mayS l = true
  · rw [if_pos h1, if_pos h1]
    obtain ⟨r, h2, h3⟩ := text_loop l hs (may_len h1) l.length 0 k ⟨#[]⟩ (by omega) (by have := may_len h1; omega) rfl
    simp only [Int.natCast_zero] at h2
    rw [h2]
    have : r = ⟨(textL l).toArray⟩ := ByteArray.ext (Array.ext' (by rw [h3]))
    rw [this]
  · rw [if_neg h1, if_neg h1]
/-- Lines, as the document reads them: what is told, and the line that is begun. -/
def lin : List ByteArray → List UInt8 → List UInt8 → List ByteArray × List UInt8
  | out, line, [] => (out, line)
  | out, line, c :: l => if c = 10 then lin (out ++ [⟨line.toArray⟩]) [] l else lin out (line ++ [c]) l
theorem lin_sep (l : List UInt8) : ∀ (out : List ByteArray) (line : List UInt8), 10 ∉ line → (lin out line l).1 = out ++ ((sepC 10 (line ++ l)).dropLast.map fun x => ⟨x.toArray⟩) ∧ some (lin out line l).2 = (sepC 10 (line ++ l)).getLast? := by
  induction l with
  | nil =>
    intro out line h
    rw [List.append_nil, sepC_free 10 line h]
    simp [lin]
  | cons c l ih =>
    intro out line h
    unfold lin
    by_cases hc : c = 10
    · subst hc
      rw [if_pos rfl]
      obtain ⟨i1, i2⟩ := ih (out ++ [⟨line.toArray⟩]) [] (by simp)
      rw [i1, i2, sepC_app, sepC_free 10 line h, List.nil_append, List.singleton_append]
      have hne := sepC_ne 10 l
      cases hq : sepC 10 l with
      | nil => exact absurd hq hne
      | cons n ns =>
        rw [List.dropLast_cons_cons, List.map_cons, List.getLast?_cons_cons]
        simp
    · rw [if_neg hc]
      obtain ⟨i1, i2⟩ := ih out (line ++ [c]) (by simp [h, Ne.symm hc])
      rw [i1, i2, List.append_assoc]
      exact ⟨rfl, rfl⟩
def parseEnd (r : List ByteArray × List UInt8) : Option (List ByteArray × Int) := if r.2 = [] ∧ mayS r.1 = true then some (r.1, 0) else some ([], 5)
theorem parse_loop (t : ByteArray) (ht : t.size ≤ 1000) (d : Nat) : ∀ (i k : Nat) (out : List ByteArray) (line : ByteArray), i + d = t.size → 1100000 + d < k → out.length ≤ i → line.size ≤ i → (∀ p ∈ out, p.size ≤ 1000) → aquiferref06_Parse.l0 k t out line (i : Int) =
    parseEnd (lin out line.data.toList (t.data.toList.drop i)) := by
  have hsz : t.data.toList.length = t.size := rfl
  induction d with
  | zero =>
    intro i k out line h hk ho hli hsm
    obtain ⟨k, rfl⟩ : ∃ q, k = q + 1 := ⟨k - 1, by omega⟩
    have hf : (out.length + 3) * (out.length + 1) ≤ 1003 * 1001 := Nat.mul_le_mul (by omega) (by omega)
    unfold aquiferref06_Parse.l0
    rw [if_neg (by omega), List.drop_of_length_le (by omega), refmay (shortP_mk (by omega) (fun p hp => by have := hsm p hp; omega)) (by omega) k (by omega), Option.bind_some]
    rw [show lin out line.data.toList [] = (out, line.data.toList) from rfl, ← ByteArray.toList_eq]
    unfold parseEnd
    dsimp only
    by_cases h1 : line.toList = []
    · rw [if_pos h1]
      by_cases h2 : mayS out = true
      · rw [if_pos h2, if_pos ⟨h1, h2⟩]
      · rw [if_neg h2, if_neg (fun h => h2 h.2)]
    · rw [if_neg h1, if_neg (fun h => h1 h.1)]
  | succ d ih =>
    intro i k out line h hk ho hli hsm
    obtain ⟨k, rfl⟩ : ∃ q, k = q + 1 := ⟨k - 1, by omega⟩
    have hi : i < t.data.toList.length := by omega
    have hex : (t.extract ((i : Nat) : Int).toNat (((i + 1 : Nat) : Int)).toNat).data.toList = [t.data.toList[i]] := by
      simp only [Int.toNat_natCast, ByteArray.data_extract, Array.toList_extract]
      rw [List.extract_eq_take_drop, show i + 1 - i = 1 by omega, List.drop_eq_getElem_cons hi]
      rfl
    have hes : (t.extract ((i : Nat) : Int).toNat (((i + 1 : Nat) : Int)).toNat).size = 1 := by
      rw [← dlen, hex]; rfl
    unfold aquiferref06_Parse.l0
    rw [if_pos (by omega), if_pos (by omega), btl_at t i hi, wr1 i (by omega), List.drop_eq_getElem_cons hi]
    rw [lin]
    by_cases hc : t.data.toList[i] = 10
    · have hc' : ((t.data.toList[i]).toNat : Int) = 10 := by rw [hc]; rfl
      rw [if_pos hc', if_pos hc, if_pos (by omega), ih (i + 1) k _ _ (by omega) (by omega) (by simp; omega) (by show (0 : Nat) ≤ _; omega) (fun p hp => (List.mem_append.1 hp).elim (hsm p) (fun e => by rw [List.mem_singleton.1 e]; omega))]
    · have hc' : ¬ ((t.data.toList[i]).toNat : Int) = 10 := fun e => hc (UInt8.toNat.inj (by have : (10 : UInt8).toNat = 10 := rfl; omega))
      rw [if_neg hc', if_neg hc, if_pos (by omega), if_pos (by omega), if_pos (by omega), ih (i + 1) k _ _ (by omega) (by omega) (by omega) (by rw [ByteArray.size_append]; omega) hsm, ByteArray.data_append, Array.toList_append, hex]
theorem refparse (t : ByteArray) (ht : t.size ≤ 1000) (k : Nat) (hk : 1200000 ≤ k) : aquiferref06_Parse.f k t = some (parseS t) := by
  unfold aquiferref06_Parse.f
  have h := parse_loop t ht t.size 0 k [] ⟨#[]⟩ (by omega) (by omega) (Nat.le_refl _) (Nat.le_refl _) (fun p hp => by simp at hp)
  have h2 := lin_sep t.data.toList [] [] (by simp)
  have e0 : (⟨#[]⟩ : ByteArray).data.toList = [] := rfl
  rw [List.drop_zero, e0] at h
  simp only [Int.natCast_zero] at h
  rw [h]
  rw [List.nil_append, List.nil_append] at h2
  obtain ⟨h2, h3⟩ := h2
  generalize lin [] [] t.data.toList = r at h2 h3
  obtain ⟨r1, r2⟩ := r
  dsimp only at h2 h3
  unfold parseEnd parseS linesB
  dsimp only
  by_cases h0 : t.size = 0
  · have e1 : t.data.toList = [] := List.eq_nil_of_length_eq_zero (by rw [dlen]; exact h0)
    rw [if_pos h0]
    rw [e1] at h2 h3
    have e3 : r2 = [] := by simpa [sepC] using h3
    have e2 : r1 = [] := by simpa [sepC] using h2
    subst e3
    subst e2
    rw [if_pos ⟨rfl, rfl⟩]
  · rw [if_neg h0]
    have hdl : ((sepC 10 t.data.toList).map fun x => (⟨x.toArray⟩ : ByteArray)).dropLast = r1 := by rw [h2, List.map_dropLast]
    have hgl : ((sepC 10 t.data.toList).map fun x => (⟨x.toArray⟩ : ByteArray)).getLast? = some ⟨r2.toArray⟩ := by rw [List.getLast?_map, ← h3]; rfl
    rw [hdl, hgl]
    have hiff : (some (⟨r2.toArray⟩ : ByteArray) = some ⟨#[]⟩) ↔ r2 = [] := by
      rw [Option.some.injEq]
      constructor
      · intro e
        have := congrArg (fun b : ByteArray => b.data.toList) e
        simpa using this
      · intro e; rw [e]
    by_cases hc : r2 = [] ∧ mayS r1 = true
    · rw [if_pos hc, if_pos ⟨hiff.2 hc.1, hc.2⟩]
    · rw [if_neg hc, if_neg (fun hh => hc ⟨hiff.1 hh.1, hh.2⟩)]
end Go.Proofs.YtkflalaocnghcaaDoor.Q

namespace Go.Proofs.YtkflalaocnghcaaDoor.Q
open Go.RowKit Go.Proofs.YtkflalaocnghcaaDoorW.PrintWords Go.Proofs.YtkflalaocnghcaaDoorW.PrintLast Go.Proofs.YtkflalaocnghcaaDoorW.PrintMore Go.Proofs.YtkflalaocnghcaaDoorK
attribute [local go_sem] max2_int min2_int max_two min_two max_three min_three max_four min_four   -- for this text's walks alone
attribute [local go_sem ↓] Go.Proofs.YtkflalaocnghcaaDoorK.isSome_setCell
set_option linter.unusedVariables false
set_option linter.unusedSimpArgs false

/-! ### aquiferlaw06_ScopeTexts: function 7 -/
def aquiferlaw06_ScopeTexts.f (k : Nat) (l0 : List ByteArray) (a1 : ByteArray) : Option (Bool) := (aquiferlaw06_few.f k l0).bind fun t357 => (if 0 ≤ (mn (a1.size : Int) 1000) then (if (mn (a1.size : Int) 1000) ≤ (a1.size : Int) then ((scope_Text.f t357).bind fun bt360 => ((aquiferref06_Text.f k t357).bind fun bt362 => ((scope_Parse.f (a1.extract 0 ((mn (a1.size : Int) 1000) : Int).toNat)).bind fun bt364 => ((aquiferref06_Parse.f k (a1.extract 0 ((mn (a1.size : Int) 1000) : Int).toNat)).bind fun bt368 => (if bt360.1.toList = bt362.1.toList then (if bt360.2 = bt362.2 then ((aquiferref05_SameTexts.f k bt364.1 bt368.1).bind fun t372 => (if t372 = true then (if bt364.2 = bt368.2 then ((aquiferlaw06_works.f k).bind fun t373 => (some t373)) else (none)) else (none))) else (none)) else (none)))))) else (none)) else (none))
theorem aquiferlaw06_ScopeTexts.mono : ∀ a0 a1 k, LeO (aquiferlaw06_ScopeTexts.f k a0 a1) (aquiferlaw06_ScopeTexts.f (k + 1) a0 a1) := by
  intro a0 a1 k
  unfold aquiferlaw06_ScopeTexts.f
  repeat' first
      | (with_reducible exact aquiferlaw06_few.mono _ _)
      | (with_reducible exact aquiferlaw06_works.mono _)
      | (with_reducible exact aquiferref05_SameTexts.mono _ _ _)
      | (with_reducible exact aquiferref06_Parse.mono _ _)
      | (with_reducible exact aquiferref06_Text.mono _ _)
      | (with_reducible exact LeO.refl _)
      | (with_reducible exact LeO.none _)
      | (with_reducible refine LeO.ite ?_ ?_)
      | (with_reducible refine LeO.bind ?_ (fun _ => ?_))
      | exact aquiferlaw06_few.mono _ _
      | exact aquiferlaw06_works.mono _
      | exact aquiferref05_SameTexts.mono _ _ _
      | exact aquiferref06_Parse.mono _ _
      | exact aquiferref06_Text.mono _ _
      | exact LeO.none _
      | refine LeO.ite ?_ ?_
      | refine LeO.bind ?_ (fun _ => ?_)
def aquiferlaw06_ScopeTexts.T1 : Bool × List (List Nat × List Nat) := (true, [([], []), ([0], [0]), ([], []), ([], []), ([3], [3]), ([4], [4]), ([2, 5], [2, 5]), ([1, 1, 0, 1], [0, 1]), ([6, 7, 0, 1, 2, 3, 4, 5, 6, 7], [2, 3, 6])])
def aquiferlaw06_ScopeTexts.B1 : List Nat := [0, 1, 0, 0, 8, 24, 60, 3, 255]
theorem aquiferlaw06_ScopeTexts.tab1 : rtab .any (opsOf Tryd.f7 1) = aquiferlaw06_ScopeTexts.T1 := by kernel_rfl
theorem aquiferlaw06_ScopeTexts.bits1 : waitsOk aquiferlaw06_ScopeTexts.T1.2 aquiferlaw06_ScopeTexts.B1 = true := by kernel_rfl
set_option maxHeartbeats 8000000 in
set_option maxRecDepth 100000 in
theorem aquiferlaw06_ScopeTexts.calls (k : Nat) (A0 : Option Addr) (c0 : Nat) (l0 : List ByteArray) (a1 : ByteArray) (r : Bool) (w : World) (hr0 : Kd.C Kd.string w A0 l0.length l0) (hc0 : l0.length ≤ c0) (h : aquiferlaw06_ScopeTexts.f k l0 a1 = some r) :
    Calls Tryd.prog 7 #[.slice A0 l0.length c0, .string a1] w fun e w' => e = .returned (.bool r) ∧ Below w.heap.size w w' := by
  have HR0 := Aside0.mk hr0
  have HC0 := Aside0.mk hc0
  clear hr0 hc0
  have HB := Aside0.mk (Below.refl w.heap.size w)
  have H : ((aquiferlaw06_few.f k l0).bind fun t357 => (if 0 ≤ (mn (a1.size : Int) 1000) then (if (mn (a1.size : Int) 1000) ≤ (a1.size : Int) then ((scope_Text.f t357).bind fun bt360 => ((aquiferref06_Text.f k t357).bind fun bt362 => ((scope_Parse.f (a1.extract 0 ((mn (a1.size : Int) 1000) : Int).toNat)).bind fun bt364 => ((aquiferref06_Parse.f k (a1.extract 0 ((mn (a1.size : Int) 1000) : Int).toNat)).bind fun bt368 => (if bt360.1.toList = bt362.1.toList then (if bt360.2 = bt362.2 then ((aquiferref05_SameTexts.f k bt364.1 bt368.1).bind fun t372 => (if t372 = true then (if bt364.2 = bt368.2 then ((aquiferlaw06_works.f k).bind fun t373 => (some t373)) else (none)) else (none))) else (none)) else (none)))))) else (none)) else (none))) = some r := h
  clear h
  replace H := Option.bind_eq_some_iff.mp H
  obtain ⟨t357, A30, H⟩ := H
  replace H : (if 0 ≤ (mn (a1.size : Int) 1000) then (if (mn (a1.size : Int) 1000) ≤ (a1.size : Int) then ((scope_Text.f t357).bind fun bt360 => ((aquiferref06_Text.f k t357).bind fun bt362 => ((scope_Parse.f (a1.extract 0 ((mn (a1.size : Int) 1000) : Int).toNat)).bind fun bt364 => ((aquiferref06_Parse.f k (a1.extract 0 ((mn (a1.size : Int) 1000) : Int).toNat)).bind fun bt368 => (if bt360.1.toList = bt362.1.toList then (if bt360.2 = bt362.2 then ((aquiferref05_SameTexts.f k bt364.1 bt368.1).bind fun t372 => (if t372 = true then (if bt364.2 = bt368.2 then ((aquiferlaw06_works.f k).bind fun t373 => (some t373)) else (none)) else (none))) else (none)) else (none)))))) else (none)) else (none)) = some r := H
  have A3 := Aside0.mk A30
  clear A30
  obtain ⟨ji4, hji4⟩ : ∃ j_ : Int, (mn (a1.size : Int) 1000) = j_ := ⟨_, rfl⟩
  replace H : (if 0 ≤ (ji4) then (if (ji4) ≤ (a1.size : Int) then ((scope_Text.f t357).bind fun bt360 => ((aquiferref06_Text.f k t357).bind fun bt362 => ((scope_Parse.f (a1.extract 0 ((ji4) : Int).toNat)).bind fun bt364 => ((aquiferref06_Parse.f k (a1.extract 0 ((ji4) : Int).toNat)).bind fun bt368 => (if bt360.1.toList = bt362.1.toList then (if bt360.2 = bt362.2 then ((aquiferref05_SameTexts.f k bt364.1 bt368.1).bind fun t372 => (if t372 = true then (if bt364.2 = bt368.2 then ((aquiferlaw06_works.f k).bind fun t373 => (some t373)) else (none)) else (none))) else (none)) else (none)))))) else (none)) else (none)) = some r := by first | (rw [hji4] at H; exact H) | (simp only [hji4] at H ⊢; exact H)
  (try rw [hji4] at A3)
  (try (have hji4h : ji4 ≤ 1000 := by (rw [← hji4]; unfold mn; (repeat' split) <;> omega)))
  (try (have hji4g : ji4 ≤ 64 := by omega))
  (try (have hji4l : 0 ≤ ji4 := by (rw [← hji4]; unfold mn; (repeat' split) <;> omega)))
  (try (have hji4m : 0 ≤ ji4 := by omega))
  have hji4_ : (if 1000 < (a1.size : Int) then 1000 else (a1.size : Int)) = ji4 := hji4
  by_cases c5 : 0 ≤ (ji4)
  · rw [if_pos c5] at H
    have c5b0 := eq_true c5
    have c5b1 : decide (0 ≤ (ji4)) = true := decide_eq_true c5
    clear c5
    by_cases c6 : (ji4) ≤ (a1.size : Int)
    · rw [if_pos c6] at H
      have c6b0 := eq_true c6
      have c6b1 : decide ((ji4) ≤ (a1.size : Int)) = true := decide_eq_true c6
      clear c6
      replace H := Option.bind_eq_some_iff.mp H
      obtain ⟨⟨t360, t361⟩, A70, H⟩ := H
      replace H : ((aquiferref06_Text.f k t357).bind fun bt362 => ((scope_Parse.f (a1.extract 0 ((ji4) : Int).toNat)).bind fun bt364 => ((aquiferref06_Parse.f k (a1.extract 0 ((ji4) : Int).toNat)).bind fun bt368 => (if t360.toList = bt362.1.toList then (if t361 = bt362.2 then ((aquiferref05_SameTexts.f k bt364.1 bt368.1).bind fun t372 => (if t372 = true then (if bt364.2 = bt368.2 then ((aquiferlaw06_works.f k).bind fun t373 => (some t373)) else (none)) else (none))) else (none)) else (none))))) = some r := H
      have A7 := Aside0.mk A70
      clear A70
      replace H := Option.bind_eq_some_iff.mp H
      obtain ⟨⟨t362, t363⟩, A80, H⟩ := H
      replace H : ((scope_Parse.f (a1.extract 0 ((ji4) : Int).toNat)).bind fun bt364 => ((aquiferref06_Parse.f k (a1.extract 0 ((ji4) : Int).toNat)).bind fun bt368 => (if t360.toList = t362.toList then (if t361 = t363 then ((aquiferref05_SameTexts.f k bt364.1 bt368.1).bind fun t372 => (if t372 = true then (if bt364.2 = bt368.2 then ((aquiferlaw06_works.f k).bind fun t373 => (some t373)) else (none)) else (none))) else (none)) else (none)))) = some r := H
      have A8 := Aside0.mk A80
      clear A80
      replace H := Option.bind_eq_some_iff.mp H
      obtain ⟨⟨t364, t365⟩, A90, H⟩ := H
      replace H : ((aquiferref06_Parse.f k (a1.extract 0 ((ji4) : Int).toNat)).bind fun bt368 => (if t360.toList = t362.toList then (if t361 = t363 then ((aquiferref05_SameTexts.f k t364 bt368.1).bind fun t372 => (if t372 = true then (if t365 = bt368.2 then ((aquiferlaw06_works.f k).bind fun t373 => (some t373)) else (none)) else (none))) else (none)) else (none))) = some r := H
      have A9 := Aside0.mk A90
      clear A90
      replace H := Option.bind_eq_some_iff.mp H
      obtain ⟨⟨t368, t369⟩, A100, H⟩ := H
      replace H : (if t360.toList = t362.toList then (if t361 = t363 then ((aquiferref05_SameTexts.f k t364 t368).bind fun t372 => (if t372 = true then (if t365 = t369 then ((aquiferlaw06_works.f k).bind fun t373 => (some t373)) else (none)) else (none))) else (none)) else (none)) = some r := H
      have A10 := Aside0.mk A100
      clear A100
      by_cases c11 : t360.toList = t362.toList
      · rw [if_pos c11] at H
        have c11b0 : (t360.toList == t362.toList) = true := beq_iff_eq.mpr c11
        have c11b1 : (t360.toList != t362.toList) = false := bne_eq_false_iff_eq.mpr c11
        clear c11
        by_cases c12 : t361 = t363
        · rw [if_pos c12] at H
          have c12b0 : (t361 == t363) = true := beq_iff_eq.mpr c12
          have c12b1 : (t361 != t363) = false := bne_eq_false_iff_eq.mpr c12
          clear c12
          replace H := Option.bind_eq_some_iff.mp H
          obtain ⟨t372, A130, H⟩ := H
          replace H : (if t372 = true then (if t365 = t369 then ((aquiferlaw06_works.f k).bind fun t373 => (some t373)) else (none)) else (none)) = some r := H
          have A13 := Aside0.mk A130
          clear A130
          by_cases c14 : t372 = true
          · subst c14
            have H1 : (if t365 = t369 then ((aquiferlaw06_works.f k).bind fun t373 => (some t373)) else (none)) = some r := by rw [if_pos rfl] at H; exact H
            clear H
            have H := H1
            clear H1
            by_cases c15 : t365 = t369
            · rw [if_pos c15] at H
              have c15b0 : (t365 == t369) = true := beq_iff_eq.mpr c15
              have c15b1 : (t365 != t369) = false := bne_eq_false_iff_eq.mpr c15
              clear c15
              replace H := Option.bind_eq_some_iff.mp H
              obtain ⟨t373, A160, H⟩ := H
              replace H : (some t373) = some r := H
              have A16 := Aside0.mk A160
              clear A160
              obtain rfl := Option.some.inj H
              go_enter Tryd.func7, Tryd.ntmps7
              try go_wp2
              have n0_ := Aside0.mk (below_drew1 HB.out)
              clear HB
              have HB := n0_
              clear n0_
              refine start_ (n := 9) (S := fun w' => True) (ds := []) #[false, false, false, false, false, false, false, false, false] (by kernel_rfl) rfl rfl trivial (fun hHeld => ?_); refine with_tabW aquiferlaw06_ScopeTexts.tab1 aquiferlaw06_ScopeTexts.bits1 (fun HT_ HW_ => ?_)
              generalize w.drew = w17 at HB hHeld ⊢
              refine pure_ (i := 0) (N := some 13) (v := ?_) (a' := ?_) #[true, false, false, false, false, false, false, false, false] rfl rfl (any_of HT_.out (by kernel_rfl)) (fun _ _ _ h => h) (Or.inl ⟨by rfl, ?_⟩) ?_ ?_
              rotate_left
              · intro w'
                go_simp
                with_reducible rfl
              rotate_left
              · simp only [Act.put, List.setIfInBounds_toArray, List.set_cons_zero, List.set_cons_succ, i64_w, i32_w]
                rfl
              refine pure_ (i := 2) (N := some 15) (v := ?_) (a' := ?_) #[true, false, true, false, false, false, false, false, false] rfl rfl (any_of HT_.out (by kernel_rfl)) (fun _ _ _ h => h) (Or.inl ⟨by rfl, ?_⟩) ?_ ?_
              rotate_left
              · intro w'
                go_simp
                with_reducible rfl
              rotate_left
              · simp only [Act.put, List.setIfInBounds_toArray, List.set_cons_zero, List.set_cons_succ, i64_w, i32_w]
                rfl
              refine pure_ (i := 3) (N := some 16) (v := ?_) (a' := ?_) #[true, false, true, true, false, false, false, false, false] rfl rfl (any_of HT_.out (by kernel_rfl)) (fun _ _ _ h => h) (Or.inl ⟨by rfl, ?_⟩) ?_ ?_
              rotate_left
              · intro w'
                go_simp
                with_reducible rfl
              rotate_left
              · simp only [Act.put, List.setIfInBounds_toArray, List.set_cons_zero, List.set_cons_succ, i64_w, i32_w]
                rfl
              refine pure_ (i := 4) (N := some 17) (v := ?_) (a' := ?_) #[true, false, true, true, true, false, false, false, false] rfl rfl (any_of HT_.out (by kernel_rfl)) (fun _ _ _ h => h) (Or.inl ⟨by rfl, ?_⟩) ?_ ?_
              rotate_left
              · intro w'
                go_simp
                with_reducible rfl
              rotate_left
              · simp only [Act.put, List.setIfInBounds_toArray, List.set_cons_zero, List.set_cons_succ, i64_w, i32_w]
                rfl
              refine pure_ (i := 5) (N := some 18) (v := ?_) (a' := ?_) #[true, false, true, true, true, true, false, false, false] rfl rfl (any_of HT_.out (by kernel_rfl)) (fun _ _ _ h => h) (Or.inl ⟨by rfl, ?_⟩) ?_ ?_
              rotate_left
              · intro w'
                go_simp
                with_reducible rfl
              rotate_left
              · simp only [Act.put, List.setIfInBounds_toArray, List.set_cons_zero, List.set_cons_succ, i64_w, i32_w]
                rfl
              refine pure_ (i := 6) (N := some 19) (v := ?_) (a' := ?_) #[true, false, true, true, true, true, true, false, false] rfl rfl (any_of HT_.out (by kernel_rfl)) (fun _ _ _ h => h) (Or.inl ⟨by rfl, ?_⟩) ?_ ?_
              rotate_left
              · intro w'
                go_simp
                with_reducible rfl
              rotate_left
              · simp only [Act.put, List.setIfInBounds_toArray, List.set_cons_zero, List.set_cons_succ, i64_w, i32_w]
                rfl
              refine one_ (i := 1) (N := some 14) #[true, true, true, true, true, true, true, false, false] rfl rfl (one_of HT_.out (by kernel_rfl)) (by decide) (fun K hK => ?_)
              refine goes_ Tryd.func9 (by kernel_rfl) rfl #[.slice A0 l0.length c0] (by rfl) rfl rfl (by (try simp only [List.map_toArray, List.map_cons, List.map_nil]); first | done | rfl | (simp only [List.length_drop, List.length_take]; rfl)) ?_
              with_reducible refine (aquiferlaw06_few.calls k _ _ l0 t357 _ ?side1 ?side2 A3.out).mono ?_
              (case side1 => exact CU (Kd.C_below HR0.out HB.out))
              (case side2 => exact HC0.out)
              rintro e w18 ⟨v358, rfl, ho0, hb⟩
              refine ⟨_, rfl, ?_⟩
              have n0_ := Aside0.mk (S_lower ho0 (sizU HB.out))
              have n1_ := Aside0.mk (below_step (belU HB.out) hb)
              clear HB
              have HO359 := n0_
              have HB := n1_
              clear n0_ n1_
              (try clear hb)
              (try clear hb2)
              (try clear hk)
              (try clear hi)
              (try clear ho0)
              refine hK.out _ _ trivial (fun hHeld => ?_)
              clear hK K
              refine norm_ (a' := ?_) ?_ ?_
              rotate_left
              · show Act.put _ (some 14) _ = _
                simp only [Act.put, List.setIfInBounds_toArray, List.set_cons_zero, List.set_cons_succ, i64_w, i32_w]
                rfl
              refine pure_ (i := 7) (N := some 0) (v := ?_) (a' := ?_) #[true, true, true, true, true, true, true, true, false] rfl rfl (any_of HT_.out (by kernel_rfl)) (fun _ _ _ h => h) (Or.inl ⟨by rfl, ?_⟩) ?_ ?_
              rotate_left
              · intro w'
                go_simp
                with_reducible rfl
              rotate_left
              · simp only [Act.put, List.setIfInBounds_toArray, List.set_cons_zero, List.set_cons_succ, i64_w, i32_w]
                rfl
              refine pure_ (i := 8) (N := some 1) (v := ?_) (a' := ?_) #[true, true, true, true, true, true, true, true, true] rfl rfl (any_of HT_.out (by kernel_rfl)) (fun _ _ _ h => h) (Or.inl ⟨by rfl, ?_⟩) ?_ ?_
              rotate_left
              · intro w'
                go_simp
                with_reducible rfl
              rotate_left
              · simp only [Act.put, List.setIfInBounds_toArray, List.set_cons_zero, List.set_cons_succ, i64_w, i32_w]
                rfl
              refine done_ (done_of HT_.out (by kernel_rfl)) ?_
              obtain ⟨Ao19, co19, eo19⟩ := S_slice HO359.out
              subst eo19
              try go_wp2_with (first | ((with_reducible refine gate_callee (f := 24) rfl ?_); refine goesL_ (some 22) rfl rfl Tryd.func24 (by kernel_rfl) rfl #[.slice Ao19 t357.length co19] rfl (by (try simp only [List.map_toArray, List.map_cons, List.map_nil]); first | done | rfl | (simp only [List.length_drop, List.length_take]; rfl)) ?_; (with_reducible refine (scope_Text.calls _ _ t357 t360 t361 _ ?side1 ?side2 A7.out).mono ?_); (case side1 => exact CU (S_reads' HO359.out).2.2); (case side2 => exact (S_reads' HO359.out).2.1); rintro e w20 ⟨rfl, hb⟩; refine ⟨_, rfl, ?_⟩; have n0_ := Aside0.mk (S_below (SU HO359.out) hb); have n1_ := Aside0.mk (below_step (belU HB.out) hb); clear HO359; clear HB; have HO359 := n0_; have HB := n1_; clear n0_ n1_; (try clear hb); (try clear hb2); (try clear hk); (try clear hi)) | ((with_reducible refine gate_callee (f := 25) rfl ?_); refine goesL_ (some 27) rfl rfl Tryd.func25 (by kernel_rfl) rfl #[.slice Ao19 t357.length co19] rfl (by (try simp only [List.map_toArray, List.map_cons, List.map_nil]); first | done | rfl | (simp only [List.length_drop, List.length_take]; rfl)) ?_; (with_reducible refine (aquiferref06_Text.calls k _ _ t357 t362 t363 _ ?side1 ?side2 A8.out).mono ?_); (case side1 => exact CU (S_reads' HO359.out).2.2); (case side2 => exact (S_reads' HO359.out).2.1); rintro e w21 ⟨rfl, hb⟩; refine ⟨_, rfl, ?_⟩; have n0_ := Aside0.mk (S_below (SU HO359.out) hb); have n1_ := Aside0.mk (below_step (belU HB.out) hb); clear HO359; clear HB; have HO359 := n0_; have HB := n1_; clear n0_ n1_; (try clear hb); (try clear hb2); (try clear hk); (try clear hi)) | ((with_reducible refine gate_callee (f := 26) rfl ?_); refine goesL_ (some 32) rfl rfl Tryd.func26 (by kernel_rfl) rfl #[.string (a1.extract 0 ((ji4) : Int).toNat)] rfl (by (try simp only [List.map_toArray, List.map_cons, List.map_nil]); first | done | (simp only [hji4]; rfl) | rfl | (simp only [List.length_drop, List.length_take]; rfl)) ?_; (with_reducible refine (scope_Parse.calls (a1.extract 0 ((ji4) : Int).toNat) t364 t365 _ A9.out).mono ?_); rintro e w22 ⟨v366, rfl, ho0, hb⟩; refine ⟨_, rfl, ?_⟩; have n0_ := Aside0.mk (S_elder' (SU HO359.out) (S_base ho0) hb); have n1_ := Aside0.mk (S_lower (S_new' ho0 (S_lt (SU HO359.out))) (sizU HB.out)); have n2_ := Aside0.mk (below_step (belU HB.out) hb); clear HO359; clear HB; have HO359 := n0_; have HO367 := n1_; have HB := n2_; clear n0_ n1_ n2_; (try clear hb); (try clear hb2); (try clear hk); (try clear hi); (try clear ho0)) | ((with_reducible refine gate_callee (f := 27) rfl ?_); refine goesL_ (some 37) rfl rfl Tryd.func27 (by kernel_rfl) rfl #[.string (a1.extract 0 ((ji4) : Int).toNat)] rfl (by (try simp only [List.map_toArray, List.map_cons, List.map_nil]); first | done | (simp only [hji4]; rfl) | rfl | (simp only [List.length_drop, List.length_take]; rfl)) ?_; (with_reducible refine (aquiferref06_Parse.calls k (a1.extract 0 ((ji4) : Int).toNat) t368 t369 _ A10.out).mono ?_); rintro e w23 ⟨v370, rfl, ho0, hb⟩; refine ⟨_, rfl, ?_⟩; have n0_ := Aside0.mk (S_elder' (SU HO359.out) (S_base ho0) hb); have n1_ := Aside0.mk (S_elder' (SU HO367.out) (S_base ho0) hb); have n2_ := Aside0.mk (S_lower (S_new' (S_new' ho0 (S_lt (SU HO359.out))) (S_lt (SU HO367.out))) (sizU HB.out)); have n3_ := Aside0.mk (below_step (belU HB.out) hb); clear HO359; clear HO367; clear HB; have HO359 := n0_; have HO367 := n1_; have HO371 := n2_; have HB := n3_; clear n0_ n1_ n2_ n3_; (try clear hb); (try clear hb2); (try clear hk); (try clear hi); (try clear ho0); obtain ⟨Ao24, co24, eo24⟩ := S_slice HO367.out; subst eo24; obtain ⟨Ao25, co25, eo25⟩ := S_slice HO371.out; subst eo25) | (go_at_call 12; (with_reducible refine (aquiferref05_SameTexts.calls k _ _ t364 _ _ t368 true _ ?side1 ?side2 ?side3 ?side4 A13.out).mono ?_); (case side1 => exact CU (S_reads' HO367.out).2.2); (case side2 => exact (S_reads' HO367.out).2.1); (case side3 => exact CU (S_reads' HO371.out).2.2); (case side4 => exact (S_reads' HO371.out).2.1); rintro e w' ⟨rfl, ⟨nd, rfl⟩⟩) | (go_at_call 15; (with_reducible refine (aquiferlaw06_works.calls k  t373 _ A16.out).mono ?_); rintro e w26 ⟨rfl, hb⟩; have n0_ := Aside0.mk (S_below (SU HO359.out) hb); have n1_ := Aside0.mk (S_below (SU HO367.out) hb); have n2_ := Aside0.mk (S_below (SU HO371.out) hb); have n3_ := Aside0.mk (below_step (belU HB.out) hb); clear HO359; clear HO367; clear HO371; clear HB; have HO359 := n0_; have HO367 := n1_; have HO371 := n2_; have HB := n3_; clear n0_ n1_ n2_ n3_; (try clear hb); (try clear hb2); (try clear hk); (try clear hi)))
              go_ret
              exact ⟨by first | rfl | (simp [errW_none, errW_some] <;> rfl) | (simp only [← hji4]; first | rfl | (simp [errW_none, errW_some] <;> rfl)) | (simp [*, errW_none, errW_some] <;> rfl), belU HB.out⟩
            · rw [if_neg c15] at H
              exact absurd H (by simp)
          · replace c14 := Bool.eq_false_iff.mpr c14
            subst c14
            have H1 : (none) = some r := by rw [if_neg (show ¬ (false = true) by decide)] at H; exact H
            clear H
            have H := H1
            clear H1
            exact absurd H (by simp)
        · rw [if_neg c12] at H
          exact absurd H (by simp)
      · rw [if_neg c11] at H
        exact absurd H (by simp)
    · rw [if_neg c6] at H
      exact absurd H (by simp)
  · rw [if_neg c5] at H
    exact absurd H (by simp)

end Go.Proofs.YtkflalaocnghcaaDoor.Q

namespace Go.Proofs.YtkflalaocnghcaaDoor.Q
open Go Go.Proofs Go.Shelf Go.RowKit Go.Lib Go.Sort Go.Proofs.YtkflalaocnghcaaDoorP Go.Proofs.YtkflalaocnghcaaDoorK Go.Proofs.YtkflalaocnghcaaDoorW.PrintWords Go.Proofs.YtkflalaocnghcaaDoorW.PrintLast Go.Proofs.YtkflalaocnghcaaDoorW.PrintMore
theorem text_fn {l : List ByteArray} (h : shortP l = true) : scope_Text.f l = some (textS l) := by
  unfold scope_Text.f
  rw [if_pos h]
theorem parse_fn {t : ByteArray} (h : t.size ≤ 65536) : scope_Parse.f t = some (parseS t) := by
  unfold scope_Parse.f
  rw [if_pos h]
theorem parseS_len (t : ByteArray) : (parseS t).1.length ≤ t.size + 1 := by
  unfold parseS
  have := (linesB_len t).2
  split
  · exact Nat.zero_le _
  · split
    · rw [List.length_dropLast]; omega
    · exact Nat.zero_le _
theorem texts_big (l0 : List ByteArray) (a1 : ByteArray) (k : Nat) (hk : 1200000 ≤ k) : aquiferlaw06_ScopeTexts.f k l0 a1 = some true := by
  have hs := few_short l0
  have hn := few_len l0
  have hm := mn_150 a1.size 1000 (by decide)
  have hc := cut_size a1 1000 (by decide)
  unfold aquiferlaw06_ScopeTexts.f
  rw [few_fn l0 k (by omega), Option.bind_some, if_pos hm.1, if_pos hm.2.1]
  generalize fewP l0 = l at hs hn
  generalize a1.extract 0 (mn (a1.size : Int) 1000).toNat = t at hc
  have hp := parseS_len t
  rw [text_fn hs, Option.bind_some, reftext hs hn k (by omega), Option.bind_some, parse_fn (by omega), Option.bind_some, refparse t (by omega) k hk, Option.bind_some, if_pos rfl, if_pos rfl, same_refl _ (by omega) k (by omega), Option.bind_some, if_pos rfl, if_pos rfl, works_fn k (by omega), Option.bind_some]
theorem texts_ex (l0 : List ByteArray) (a1 : ByteArray) : ∃ K, ∀ k, K ≤ k → aquiferlaw06_ScopeTexts.f k l0 a1 = some true := ⟨_, texts_big l0 a1⟩
theorem ScopeTexts_pure (l0 : List ByteArray) (a1 : ByteArray) (_h0 : l0.length * 16 ≤ 140737488351232) (_g0 : ∀ a ∈ l0, a.size ≤ 9223372036854775807) (_g1 : a1.size ≤ 140737488351232) : ∃ k, aquiferlaw06_ScopeTexts.f k l0 a1 = some true := by
  obtain ⟨K, h⟩ := texts_ex l0 a1
  exact ⟨K, h K (Nat.le_refl _)⟩
end Go.Proofs.YtkflalaocnghcaaDoor.Q

namespace Go.Proofs.YtkflalaocnghcaaDoor.Q
open Go.RowKit Go.Proofs.YtkflalaocnghcaaDoorW.PrintWords Go.Proofs.YtkflalaocnghcaaDoorW.PrintLast Go.Proofs.YtkflalaocnghcaaDoorW.PrintMore Go.Proofs.YtkflalaocnghcaaDoorK
attribute [local go_sem] max2_int min2_int max_two min_two max_three min_three max_four min_four   -- for this text's walks alone
attribute [local go_sem ↓] Go.Proofs.YtkflalaocnghcaaDoorK.isSome_setCell
set_option linter.unusedVariables false
set_option linter.unusedSimpArgs false

/-! ### aquiferlaw06_ScopeTells: function 4 -/
def aquiferlaw06_ScopeTells.f (k : Nat) (l0 : List ByteArray) (l1 : List ByteArray) (a2 : ByteArray) : Option (Bool) := (aquiferlaw06_few.f k l0).bind fun t251 => ((aquiferlaw06_few.f k l1).bind fun t254 => (if 0 ≤ (mn (a2.size : Int) 150) then (if (mn (a2.size : Int) 150) ≤ (a2.size : Int) then ((scope_Has.f t251 (a2.extract 0 ((mn (a2.size : Int) 150) : Int).toNat)).bind fun t257 => ((aquiferref06_Has.f k t251 (a2.extract 0 ((mn (a2.size : Int) 150) : Int).toNat)).bind fun t258 => (if (t257 == t258) = true then ((scope_Covers.f t251 t254).bind fun t259 => ((aquiferref06_Covers.f k t251 t254).bind fun t260 => (if (t259 == t260) = true then ((aquiferlaw06_works.f k).bind fun t261 => (some t261)) else (none)))) else (none)))) else (none)) else (none)))
theorem aquiferlaw06_ScopeTells.mono : ∀ a0 a1 a2 k, LeO (aquiferlaw06_ScopeTells.f k a0 a1 a2) (aquiferlaw06_ScopeTells.f (k + 1) a0 a1 a2) := by
  intro a0 a1 a2 k
  unfold aquiferlaw06_ScopeTells.f
  repeat' first
      | (with_reducible exact aquiferlaw06_few.mono _ _)
      | (with_reducible exact aquiferlaw06_works.mono _)
      | (with_reducible exact aquiferref06_Covers.mono _ _ _)
      | (with_reducible exact aquiferref06_Has.mono _ _ _)
      | (with_reducible exact LeO.refl _)
      | (with_reducible exact LeO.none _)
      | (with_reducible refine LeO.ite ?_ ?_)
      | (with_reducible refine LeO.bind ?_ (fun _ => ?_))
      | exact aquiferlaw06_few.mono _ _
      | exact aquiferlaw06_works.mono _
      | exact aquiferref06_Covers.mono _ _ _
      | exact aquiferref06_Has.mono _ _ _
      | exact LeO.none _
      | refine LeO.ite ?_ ?_
      | refine LeO.bind ?_ (fun _ => ?_)
def aquiferlaw06_ScopeTells.T1 : Bool × List (List Nat × List Nat) := (true, [([], []), ([0], [0]), ([], []), ([2, 1], [2]), ([], []), ([], []), ([5], [5]), ([6], [6]), ([4, 7], [4, 7]), ([1, 3, 0, 1], [0, 1]), ([3, 9, 0, 1, 2, 3, 9], [2, 3]), ([8, 10, 0, 1, 2, 3, 4, 5, 6, 7, 8, 9, 10], [4, 5, 8])])
def aquiferlaw06_ScopeTells.B1 : List Nat := [0, 1, 0, 7, 0, 0, 32, 96, 240, 15, 527, 2047]
theorem aquiferlaw06_ScopeTells.tab1 : rtab .any (opsOf Tryd.f4 1) = aquiferlaw06_ScopeTells.T1 := by kernel_rfl
theorem aquiferlaw06_ScopeTells.bits1 : waitsOk aquiferlaw06_ScopeTells.T1.2 aquiferlaw06_ScopeTells.B1 = true := by kernel_rfl
set_option maxHeartbeats 8000000 in
set_option maxRecDepth 100000 in
theorem aquiferlaw06_ScopeTells.calls (k : Nat) (A0 : Option Addr) (c0 : Nat) (l0 : List ByteArray) (A1 : Option Addr) (c1 : Nat) (l1 : List ByteArray) (a2 : ByteArray) (r : Bool) (w : World) (hr0 : Kd.C Kd.string w A0 l0.length l0) (hc0 : l0.length ≤ c0) (hr1 : Kd.C Kd.string w A1 l1.length l1) (hc1 : l1.length ≤ c1) (h : aquiferlaw06_ScopeTells.f k l0 l1 a2 = some r) :
    Calls Tryd.prog 4 #[.slice A0 l0.length c0, .slice A1 l1.length c1, .string a2] w fun e w' => e = .returned (.bool r) ∧ Below w.heap.size w w' := by
  have HR0 := Aside0.mk hr0
  have HC0 := Aside0.mk hc0
  clear hr0 hc0
  have HR1 := Aside0.mk hr1
  have HC1 := Aside0.mk hc1
  clear hr1 hc1
  have HB := Aside0.mk (Below.refl w.heap.size w)
  have H : ((aquiferlaw06_few.f k l0).bind fun t251 => ((aquiferlaw06_few.f k l1).bind fun t254 => (if 0 ≤ (mn (a2.size : Int) 150) then (if (mn (a2.size : Int) 150) ≤ (a2.size : Int) then ((scope_Has.f t251 (a2.extract 0 ((mn (a2.size : Int) 150) : Int).toNat)).bind fun t257 => ((aquiferref06_Has.f k t251 (a2.extract 0 ((mn (a2.size : Int) 150) : Int).toNat)).bind fun t258 => (if (t257 == t258) = true then ((scope_Covers.f t251 t254).bind fun t259 => ((aquiferref06_Covers.f k t251 t254).bind fun t260 => (if (t259 == t260) = true then ((aquiferlaw06_works.f k).bind fun t261 => (some t261)) else (none)))) else (none)))) else (none)) else (none)))) = some r := h
  clear h
  replace H := Option.bind_eq_some_iff.mp H
  obtain ⟨t251, A40, H⟩ := H
  replace H : ((aquiferlaw06_few.f k l1).bind fun t254 => (if 0 ≤ (mn (a2.size : Int) 150) then (if (mn (a2.size : Int) 150) ≤ (a2.size : Int) then ((scope_Has.f t251 (a2.extract 0 ((mn (a2.size : Int) 150) : Int).toNat)).bind fun t257 => ((aquiferref06_Has.f k t251 (a2.extract 0 ((mn (a2.size : Int) 150) : Int).toNat)).bind fun t258 => (if (t257 == t258) = true then ((scope_Covers.f t251 t254).bind fun t259 => ((aquiferref06_Covers.f k t251 t254).bind fun t260 => (if (t259 == t260) = true then ((aquiferlaw06_works.f k).bind fun t261 => (some t261)) else (none)))) else (none)))) else (none)) else (none))) = some r := H
  have A4 := Aside0.mk A40
  clear A40
  replace H := Option.bind_eq_some_iff.mp H
  obtain ⟨t254, A50, H⟩ := H
  replace H : (if 0 ≤ (mn (a2.size : Int) 150) then (if (mn (a2.size : Int) 150) ≤ (a2.size : Int) then ((scope_Has.f t251 (a2.extract 0 ((mn (a2.size : Int) 150) : Int).toNat)).bind fun t257 => ((aquiferref06_Has.f k t251 (a2.extract 0 ((mn (a2.size : Int) 150) : Int).toNat)).bind fun t258 => (if (t257 == t258) = true then ((scope_Covers.f t251 t254).bind fun t259 => ((aquiferref06_Covers.f k t251 t254).bind fun t260 => (if (t259 == t260) = true then ((aquiferlaw06_works.f k).bind fun t261 => (some t261)) else (none)))) else (none)))) else (none)) else (none)) = some r := H
  have A5 := Aside0.mk A50
  clear A50
  obtain ⟨ji6, hji6⟩ : ∃ j_ : Int, (mn (a2.size : Int) 150) = j_ := ⟨_, rfl⟩
  replace H : (if 0 ≤ (ji6) then (if (ji6) ≤ (a2.size : Int) then ((scope_Has.f t251 (a2.extract 0 ((ji6) : Int).toNat)).bind fun t257 => ((aquiferref06_Has.f k t251 (a2.extract 0 ((ji6) : Int).toNat)).bind fun t258 => (if (t257 == t258) = true then ((scope_Covers.f t251 t254).bind fun t259 => ((aquiferref06_Covers.f k t251 t254).bind fun t260 => (if (t259 == t260) = true then ((aquiferlaw06_works.f k).bind fun t261 => (some t261)) else (none)))) else (none)))) else (none)) else (none)) = some r := by first | (rw [hji6] at H; exact H) | (simp only [hji6] at H ⊢; exact H)
  (try rw [hji6] at A4)
  (try rw [hji6] at A5)
  (try (have hji6h : ji6 ≤ 150 := by (rw [← hji6]; unfold mn; (repeat' split) <;> omega)))
  (try (have hji6g : ji6 ≤ 64 := by omega))
  (try (have hji6l : 0 ≤ ji6 := by (rw [← hji6]; unfold mn; (repeat' split) <;> omega)))
  (try (have hji6m : 0 ≤ ji6 := by omega))
  have hji6_ : (if 150 < (a2.size : Int) then 150 else (a2.size : Int)) = ji6 := hji6
  by_cases c7 : 0 ≤ (ji6)
  · rw [if_pos c7] at H
    have c7b0 := eq_true c7
    have c7b1 : decide (0 ≤ (ji6)) = true := decide_eq_true c7
    clear c7
    by_cases c8 : (ji6) ≤ (a2.size : Int)
    · rw [if_pos c8] at H
      have c8b0 := eq_true c8
      have c8b1 : decide ((ji6) ≤ (a2.size : Int)) = true := decide_eq_true c8
      clear c8
      replace H := Option.bind_eq_some_iff.mp H
      obtain ⟨t257, A90, H⟩ := H
      replace H : ((aquiferref06_Has.f k t251 (a2.extract 0 ((ji6) : Int).toNat)).bind fun t258 => (if (t257 == t258) = true then ((scope_Covers.f t251 t254).bind fun t259 => ((aquiferref06_Covers.f k t251 t254).bind fun t260 => (if (t259 == t260) = true then ((aquiferlaw06_works.f k).bind fun t261 => (some t261)) else (none)))) else (none))) = some r := H
      have A9 := Aside0.mk A90
      clear A90
      replace H := Option.bind_eq_some_iff.mp H
      obtain ⟨t258, A100, H⟩ := H
      replace H : (if (t257 == t258) = true then ((scope_Covers.f t251 t254).bind fun t259 => ((aquiferref06_Covers.f k t251 t254).bind fun t260 => (if (t259 == t260) = true then ((aquiferlaw06_works.f k).bind fun t261 => (some t261)) else (none)))) else (none)) = some r := H
      have A10 := Aside0.mk A100
      clear A100
      by_cases c11 : (t257 == t258) = true
      · rw [if_pos c11] at H
        have c11b0 : (t257 == t258) = true := c11
        (try (have c11b1 : decide (t257 = t258) = true := by simpa using c11))
        (try (have c11b2 : (t257 == t258) = true := by simpa using c11))
        clear c11
        replace H := Option.bind_eq_some_iff.mp H
        obtain ⟨t259, A120, H⟩ := H
        replace H : ((aquiferref06_Covers.f k t251 t254).bind fun t260 => (if (t259 == t260) = true then ((aquiferlaw06_works.f k).bind fun t261 => (some t261)) else (none))) = some r := H
        have A12 := Aside0.mk A120
        clear A120
        replace H := Option.bind_eq_some_iff.mp H
        obtain ⟨t260, A130, H⟩ := H
        replace H : (if (t259 == t260) = true then ((aquiferlaw06_works.f k).bind fun t261 => (some t261)) else (none)) = some r := H
        have A13 := Aside0.mk A130
        clear A130
        by_cases c14 : (t259 == t260) = true
        · rw [if_pos c14] at H
          have c14b0 : (t259 == t260) = true := c14
          (try (have c14b1 : decide (t259 = t260) = true := by simpa using c14))
          (try (have c14b2 : (t259 == t260) = true := by simpa using c14))
          clear c14
          replace H := Option.bind_eq_some_iff.mp H
          obtain ⟨t261, A150, H⟩ := H
          replace H : (some t261) = some r := H
          have A15 := Aside0.mk A150
          clear A150
          obtain rfl := Option.some.inj H
          go_enter Tryd.func4, Tryd.ntmps4
          try go_wp2
          have n0_ := Aside0.mk (below_drew1 HB.out)
          clear HB
          have HB := n0_
          clear n0_
          refine start_ (n := 12) (S := fun w' => True) (ds := []) #[false, false, false, false, false, false, false, false, false, false, false, false] (by kernel_rfl) rfl rfl trivial (fun hHeld => ?_); refine with_tabW aquiferlaw06_ScopeTells.tab1 aquiferlaw06_ScopeTells.bits1 (fun HT_ HW_ => ?_)
          generalize w.drew = w16 at HB hHeld ⊢
          refine pure_ (i := 0) (N := some 7) (v := ?_) (a' := ?_) #[true, false, false, false, false, false, false, false, false, false, false, false] rfl rfl (any_of HT_.out (by kernel_rfl)) (fun _ _ _ h => h) (Or.inl ⟨by rfl, ?_⟩) ?_ ?_
          rotate_left
          · intro w'
            go_simp
            with_reducible rfl
          rotate_left
          · simp only [Act.put, List.setIfInBounds_toArray, List.set_cons_zero, List.set_cons_succ, i64_w, i32_w]
            rfl
          refine pure_ (i := 2) (N := some 9) (v := ?_) (a' := ?_) #[true, false, true, false, false, false, false, false, false, false, false, false] rfl rfl (any_of HT_.out (by kernel_rfl)) (fun _ _ _ h => h) (Or.inl ⟨by rfl, ?_⟩) ?_ ?_
          rotate_left
          · intro w'
            go_simp
            with_reducible rfl
          rotate_left
          · simp only [Act.put, List.setIfInBounds_toArray, List.set_cons_zero, List.set_cons_succ, i64_w, i32_w]
            rfl
          refine pure_ (i := 4) (N := some 11) (v := ?_) (a' := ?_) #[true, false, true, false, true, false, false, false, false, false, false, false] rfl rfl (any_of HT_.out (by kernel_rfl)) (fun _ _ _ h => h) (Or.inl ⟨by rfl, ?_⟩) ?_ ?_
          rotate_left
          · intro w'
            go_simp
            with_reducible rfl
          rotate_left
          · simp only [Act.put, List.setIfInBounds_toArray, List.set_cons_zero, List.set_cons_succ, i64_w, i32_w]
            rfl
          refine pure_ (i := 5) (N := some 12) (v := ?_) (a' := ?_) #[true, false, true, false, true, true, false, false, false, false, false, false] rfl rfl (any_of HT_.out (by kernel_rfl)) (fun _ _ _ h => h) (Or.inl ⟨by rfl, ?_⟩) ?_ ?_
          rotate_left
          · intro w'
            go_simp
            with_reducible rfl
          rotate_left
          · simp only [Act.put, List.setIfInBounds_toArray, List.set_cons_zero, List.set_cons_succ, i64_w, i32_w]
            rfl
          refine pure_ (i := 6) (N := some 13) (v := ?_) (a' := ?_) #[true, false, true, false, true, true, true, false, false, false, false, false] rfl rfl (any_of HT_.out (by kernel_rfl)) (fun _ _ _ h => h) (Or.inl ⟨by rfl, ?_⟩) ?_ ?_
          rotate_left
          · intro w'
            go_simp
            with_reducible rfl
          rotate_left
          · simp only [Act.put, List.setIfInBounds_toArray, List.set_cons_zero, List.set_cons_succ, i64_w, i32_w]
            rfl
          refine pure_ (i := 7) (N := some 14) (v := ?_) (a' := ?_) #[true, false, true, false, true, true, true, true, false, false, false, false] rfl rfl (any_of HT_.out (by kernel_rfl)) (fun _ _ _ h => h) (Or.inl ⟨by rfl, ?_⟩) ?_ ?_
          rotate_left
          · intro w'
            go_simp
            with_reducible rfl
          rotate_left
          · simp only [Act.put, List.setIfInBounds_toArray, List.set_cons_zero, List.set_cons_succ, i64_w, i32_w]
            rfl
          refine pure_ (i := 8) (N := some 15) (v := ?_) (a' := ?_) #[true, false, true, false, true, true, true, true, true, false, false, false] rfl rfl (any_of HT_.out (by kernel_rfl)) (fun _ _ _ h => h) (Or.inl ⟨by rfl, ?_⟩) ?_ ?_
          rotate_left
          · intro w'
            go_simp
            with_reducible rfl
          rotate_left
          · simp only [Act.put, List.setIfInBounds_toArray, List.set_cons_zero, List.set_cons_succ, i64_w, i32_w]
            rfl
          refine one_ (i := 1) (N := some 8) #[true, true, true, false, true, true, true, true, true, false, false, false] rfl rfl (one_of HT_.out (by kernel_rfl)) (by decide) (fun K hK => ?_)
          refine goes_ Tryd.func9 (by kernel_rfl) rfl #[.slice A0 l0.length c0] (by rfl) rfl rfl (by (try simp only [List.map_toArray, List.map_cons, List.map_nil]); first | done | rfl | (simp only [List.length_drop, List.length_take]; rfl)) ?_
          with_reducible refine (aquiferlaw06_few.calls k _ _ l0 t251 _ ?side1 ?side2 A4.out).mono ?_
          (case side1 => exact CU (Kd.C_below HR0.out HB.out))
          (case side2 => exact HC0.out)
          rintro e w17 ⟨v252, rfl, ho0, hb⟩
          refine ⟨_, rfl, ?_⟩
          have n0_ := Aside0.mk (Kd.R_lower ho0 (sizU HB.out))
          have n1_ := Aside0.mk (below_step (belU HB.out) hb)
          clear HB
          have HO253 := n0_
          have HB := n1_
          clear n0_ n1_
          (try clear hb)
          (try clear hb2)
          (try clear hk)
          (try clear hi)
          (try clear ho0)
          refine hK.out _ _ trivial (fun hHeld => ?_)
          clear hK K
          refine norm_ (a' := ?_) ?_ ?_
          rotate_left
          · show Act.put _ (some 8) _ = _
            simp only [Act.put, List.setIfInBounds_toArray, List.set_cons_zero, List.set_cons_succ, i64_w, i32_w]
            rfl
          refine one_ (i := 3) (N := some 10) #[true, true, true, true, true, true, true, true, true, false, false, false] rfl rfl (one_of HT_.out (by kernel_rfl)) (by decide) (fun K hK => ?_)
          refine goes_ Tryd.func9 (by kernel_rfl) rfl #[.slice A1 l1.length c1] (by rfl) rfl rfl (by (try simp only [List.map_toArray, List.map_cons, List.map_nil]); first | done | rfl | (simp only [List.length_drop, List.length_take]; rfl)) ?_
          with_reducible refine (aquiferlaw06_few.calls k _ _ l1 t254 _ ?side1 ?side2 A5.out).mono ?_
          (case side1 => exact CU (Kd.C_below HR1.out HB.out))
          (case side2 => exact HC1.out)
          rintro e w18 ⟨v255, rfl, ho0, hb⟩
          refine ⟨_, rfl, ?_⟩
          have n0_ := Aside0.mk (Kd.R_elder' (RU HO253.out) (Kd.R_base ho0) hb)
          have n1_ := Aside0.mk (Kd.R_lower (Kd.R_new' ho0 (Kd.R_lt (RU HO253.out))) (sizU HB.out))
          have n2_ := Aside0.mk (below_step (belU HB.out) hb)
          clear HO253
          clear HB
          have HO253 := n0_
          have HO256 := n1_
          have HB := n2_
          clear n0_ n1_ n2_
          (try clear hb)
          (try clear hb2)
          (try clear hk)
          (try clear hi)
          (try clear ho0)
          refine hK.out _ _ trivial (fun hHeld => ?_)
          clear hK K
          refine norm_ (a' := ?_) ?_ ?_
          rotate_left
          · show Act.put _ (some 10) _ = _
            simp only [Act.put, List.setIfInBounds_toArray, List.set_cons_zero, List.set_cons_succ, i64_w, i32_w]
            rfl
          refine pure_ (i := 9) (N := some 0) (v := ?_) (a' := ?_) #[true, true, true, true, true, true, true, true, true, true, false, false] rfl rfl (any_of HT_.out (by kernel_rfl)) (fun _ _ _ h => h) (Or.inl ⟨by rfl, ?_⟩) ?_ ?_
          rotate_left
          · intro w'
            go_simp
            with_reducible rfl
          rotate_left
          · simp only [Act.put, List.setIfInBounds_toArray, List.set_cons_zero, List.set_cons_succ, i64_w, i32_w]
            rfl
          refine pure_ (i := 10) (N := some 1) (v := ?_) (a' := ?_) #[true, true, true, true, true, true, true, true, true, true, true, false] rfl rfl (any_of HT_.out (by kernel_rfl)) (fun _ _ _ h => h) (Or.inl ⟨by rfl, ?_⟩) ?_ ?_
          rotate_left
          · intro w'
            go_simp
            with_reducible rfl
          rotate_left
          · simp only [Act.put, List.setIfInBounds_toArray, List.set_cons_zero, List.set_cons_succ, i64_w, i32_w]
            rfl
          refine pure_ (i := 11) (N := some 2) (v := ?_) (a' := ?_) #[true, true, true, true, true, true, true, true, true, true, true, true] rfl rfl (any_of HT_.out (by kernel_rfl)) (fun _ _ _ h => h) (Or.inl ⟨by rfl, ?_⟩) ?_ ?_
          rotate_left
          · intro w'
            go_simp
            with_reducible rfl
          rotate_left
          · simp only [Act.put, List.setIfInBounds_toArray, List.set_cons_zero, List.set_cons_succ, i64_w, i32_w]
            rfl
          refine done_ (done_of HT_.out (by kernel_rfl)) ?_
          obtain ⟨Ao19, co19, eo19⟩ := Kd.R_slice HO253.out
          subst eo19
          try go_wp2_with (first | ((with_reducible refine gate_callee (f := 16) rfl ?_); refine goesL_ (some 18) rfl rfl Tryd.func16 (by kernel_rfl) rfl #[.slice Ao19 t251.length co19, .string (a2.extract 0 ((ji6) : Int).toNat)] rfl (by (try simp only [List.map_toArray, List.map_cons, List.map_nil]); first | done | (simp only [hji6]; rfl) | rfl | (simp only [List.length_drop, List.length_take]; rfl)) ?_; (with_reducible refine (scope_Has.calls _ _ t251 (a2.extract 0 ((ji6) : Int).toNat) t257 _ ?side1 ?side2 A9.out).mono ?_); (case side1 => exact CU (Kd.R_reads' HO253.out).2.2); (case side2 => exact (Kd.R_reads' HO253.out).2.1); rintro e w20 ⟨rfl, hb⟩; refine ⟨_, rfl, ?_⟩; have n0_ := Aside0.mk (Kd.R_below (RU HO253.out) hb); have n1_ := Aside0.mk (Kd.R_below (RU HO256.out) hb); have n2_ := Aside0.mk (below_step (belU HB.out) hb); clear HO253; clear HO256; clear HB; have HO253 := n0_; have HO256 := n1_; have HB := n2_; clear n0_ n1_ n2_; (try clear hb); (try clear hb2); (try clear hk); (try clear hi)) | ((with_reducible refine gate_callee (f := 17) rfl ?_); refine goesL_ (some 21) rfl rfl Tryd.func17 (by kernel_rfl) rfl #[.slice Ao19 t251.length co19, .string (a2.extract 0 ((ji6) : Int).toNat)] rfl (by (try simp only [List.map_toArray, List.map_cons, List.map_nil]); first | done | (simp only [hji6]; rfl) | rfl | (simp only [List.length_drop, List.length_take]; rfl)) ?_; (with_reducible refine (aquiferref06_Has.calls k _ _ t251 (a2.extract 0 ((ji6) : Int).toNat) t258 _ ?side1 ?side2 A10.out).mono ?_); (case side1 => exact CU (Kd.R_reads' HO253.out).2.2); (case side2 => exact (Kd.R_reads' HO253.out).2.1); rintro e w21 ⟨rfl, hb⟩; refine ⟨_, rfl, ?_⟩; have n0_ := Aside0.mk (Kd.R_below (RU HO253.out) hb); have n1_ := Aside0.mk (Kd.R_below (RU HO256.out) hb); have n2_ := Aside0.mk (below_step (belU HB.out) hb); clear HO253; clear HO256; clear HB; have HO253 := n0_; have HO256 := n1_; have HB := n2_; clear n0_ n1_ n2_; (try clear hb); (try clear hb2); (try clear hk); (try clear hi); obtain ⟨Ao22, co22, eo22⟩ := Kd.R_slice HO256.out; subst eo22) | (go_at_call 18; (with_reducible refine (scope_Covers.calls _ _ t251 _ _ t254 t259 _ ?side1 ?side2 ?side3 ?side4 A12.out).mono ?_); (case side1 => exact CU (Kd.R_reads' HO253.out).2.2); (case side2 => exact (Kd.R_reads' HO253.out).2.1); (case side3 => exact CU (Kd.R_reads' HO256.out).2.2); (case side4 => exact (Kd.R_reads' HO256.out).2.1); rintro e w23 ⟨rfl, hb⟩; have n0_ := Aside0.mk (Kd.R_below (RU HO253.out) hb); have n1_ := Aside0.mk (Kd.R_below (RU HO256.out) hb); have n2_ := Aside0.mk (below_step (belU HB.out) hb); clear HO253; clear HO256; clear HB; have HO253 := n0_; have HO256 := n1_; have HB := n2_; clear n0_ n1_ n2_; (try clear hb); (try clear hb2); (try clear hk); (try clear hi)) | (go_at_call 19; (with_reducible refine (aquiferref06_Covers.calls k _ _ t251 _ _ t254 t260 _ ?side1 ?side2 ?side3 ?side4 A13.out).mono ?_); (case side1 => exact CU (Kd.R_reads' HO253.out).2.2); (case side2 => exact (Kd.R_reads' HO253.out).2.1); (case side3 => exact CU (Kd.R_reads' HO256.out).2.2); (case side4 => exact (Kd.R_reads' HO256.out).2.1); rintro e w24 ⟨rfl, hb⟩; have n0_ := Aside0.mk (Kd.R_below (RU HO253.out) hb); have n1_ := Aside0.mk (Kd.R_below (RU HO256.out) hb); have n2_ := Aside0.mk (below_step (belU HB.out) hb); clear HO253; clear HO256; clear HB; have HO253 := n0_; have HO256 := n1_; have HB := n2_; clear n0_ n1_ n2_; (try clear hb); (try clear hb2); (try clear hk); (try clear hi)) | (go_at_call 15; (with_reducible refine (aquiferlaw06_works.calls k  t261 _ A15.out).mono ?_); rintro e w25 ⟨rfl, hb⟩; have n0_ := Aside0.mk (Kd.R_below (RU HO253.out) hb); have n1_ := Aside0.mk (Kd.R_below (RU HO256.out) hb); have n2_ := Aside0.mk (below_step (belU HB.out) hb); clear HO253; clear HO256; clear HB; have HO253 := n0_; have HO256 := n1_; have HB := n2_; clear n0_ n1_ n2_; (try clear hb); (try clear hb2); (try clear hk); (try clear hi)))
          go_ret
          exact ⟨by first | rfl | (simp [errW_none, errW_some] <;> rfl) | (simp only [← hji6]; first | rfl | (simp [errW_none, errW_some] <;> rfl)) | (simp [*, errW_none, errW_some] <;> rfl), belU HB.out⟩
        · rw [if_neg c14] at H
          exact absurd H (by simp)
      · rw [if_neg c11] at H
        exact absurd H (by simp)
    · rw [if_neg c8] at H
      exact absurd H (by simp)
  · rw [if_neg c7] at H
    exact absurd H (by simp)

end Go.Proofs.YtkflalaocnghcaaDoor.Q

namespace Go.Proofs.YtkflalaocnghcaaDoor.Q
open Go Go.Proofs Go.Shelf Go.RowKit Go.Lib Go.Sort Go.Proofs.YtkflalaocnghcaaDoorP Go.Proofs.YtkflalaocnghcaaDoorK Go.Proofs.YtkflalaocnghcaaDoorW.PrintWords Go.Proofs.YtkflalaocnghcaaDoorW.PrintLast Go.Proofs.YtkflalaocnghcaaDoorW.PrintMore
theorem has_fn {l : List ByteArray} {p : ByteArray} (h1 : l.length ≤ 1048576) (h2 : p.size ≤ 65536) : scope_Has.f l p = some (hasS l p) := by
  unfold scope_Has.f
  rw [if_pos ⟨h1, h2⟩]
theorem tells_big (l0 l1 : List ByteArray) (a2 : ByteArray) (k : Nat) (hk : 20000 ≤ k) : aquiferlaw06_ScopeTells.f k l0 l1 a2 = some true := by
  have hs0 := few_short l0
  have hn0 := few_len l0
  have hs1 := few_short l1
  have hn1 := few_len l1
  have hm := mn_150 a2.size 150 (by decide)
  have hc := cut_size a2 150 (by decide)
  unfold aquiferlaw06_ScopeTells.f
  rw [few_fn l0 k (by omega), Option.bind_some, few_fn l1 k (by omega), Option.bind_some, if_pos hm.1, if_pos hm.2.1]
  generalize fewP l0 = a at hs0 hn0
  generalize fewP l1 = b at hs1 hn1
  generalize a2.extract 0 (mn (a2.size : Int) 150).toNat = p at hc
  rw [has_fn (by omega) (by omega), Option.bind_some, refhas a p hs0 (by omega) k (by omega), Option.bind_some, if_pos (by simp)]
  unfold scope_Covers.f
  rw [if_pos ⟨by omega, hs1⟩, Option.bind_some, refcovers a b hs0 hs1 k (by omega), Option.bind_some, if_pos (by simp), works_fn k (by omega), Option.bind_some]
theorem ScopeTells_pure (l0 : List ByteArray) (l1 : List ByteArray) (a2 : ByteArray) (_h0 : l0.length * 16 ≤ 140737488351232) (_g0 : ∀ a ∈ l0, a.size ≤ 9223372036854775807) (_h1 : l1.length * 16 ≤ 140737488351232) (_g1 : ∀ a ∈ l1, a.size ≤ 9223372036854775807) (_g2 : a2.size ≤ 140737488351232) : ∃ k, aquiferlaw06_ScopeTells.f k l0 l1 a2 = some true := ⟨20000, tells_big l0 l1 a2 20000 (Nat.le_refl _)⟩
end Go.Proofs.YtkflalaocnghcaaDoor.Q

namespace Go.Proofs.YtkflalaocnghcaaDoor.Q
open Go Go.Proofs Go.Shelf Go.RowKit Go.Lib Go.Sort Go.Proofs.YtkflalaocnghcaaDoorP Go.Proofs.YtkflalaocnghcaaDoorK Go.Proofs.YtkflalaocnghcaaDoorW.PrintWords Go.Proofs.YtkflalaocnghcaaDoorW.PrintLast Go.Proofs.YtkflalaocnghcaaDoorW.PrintMore
/-! ### A scope's text is read as it -/
theorem sep_mem (c : UInt8) (l : List UInt8) : ∀ x ∈ l, x = c ∨ ∃ n ∈ sepC c l, x ∈ n := by
  induction l with
  | nil => intro x hx; simp at hx
  | cons b l ih =>
    intro x hx
    rw [sepC]
    by_cases hb : b = c
    · rw [if_pos hb]
      rcases List.mem_cons.1 hx with e | hx
      · exact .inl (by rw [e, hb])
      · rcases ih x hx with h | ⟨n, hn, h⟩
        · exact .inl h
        · exact .inr ⟨n, List.mem_cons_of_mem _ hn, h⟩
    · rw [if_neg hb]
      cases hs : sepC c l with
      | nil => exact absurd hs (sepC_ne c l)
      | cons n ns =>
        rcases List.mem_cons.1 hx with e | hx
        · exact .inr ⟨b :: n, List.mem_cons_self, by rw [e]; exact List.mem_cons_self⟩
        · rcases ih x hx with h | ⟨m, hm, h⟩
          · exact .inl h
          · rw [hs] at hm
            rcases List.mem_cons.1 hm with e | hm
            · exact .inr ⟨b :: n, List.mem_cons_self, List.mem_cons_of_mem _ (by rw [← e]; exact h)⟩
            · exact .inr ⟨m, List.mem_cons_of_mem _ hm, h⟩
theorem kindL_mem {n : List UInt8} (h : kindL n ≠ 0) : ∀ x ∈ n, signB x = true ∨ x = 46 := by
  unfold kindL at h
  by_cases hm : 46 ∈ n
  · obtain ⟨a, b, rfl, ha⟩ := split_first 46 n hm
    have hc : cut (a ++ 46 :: b) [46] = (a, b, true) := by
      unfold cut
      rw [index_first 46 a b ha, if_pos (by omega)]
      simp
    rw [hc] at h
    dsimp only at h
    split at h
    · exact absurd rfl h
    · split at h
      · exact absurd rfl h
      · rename_i hpa
        rw [if_neg (by decide)] at h
        split at h
        · rename_i hpb
          intro x hx
          have hpa' : plainL a = true := by simpa using hpa
          unfold plainL at hpa' hpb
          simp only [Bool.and_eq_true, List.all_eq_true] at hpa' hpb
          rcases List.mem_append.1 hx with hx | hx
          · exact .inl (hpa'.1 x hx)
          · rcases List.mem_cons.1 hx with e | hx
            · exact .inr e
            · exact .inl (hpb.1 x hx)
        · exact absurd rfl h
  · have hc : cut n [46] = (n, [], false) := by
      unfold cut
      rw [index_free 46 n hm, if_neg (by decide)]
    rw [hc] at h
    dsimp only at h
    split at h
    · exact absurd rfl h
    · split at h
      · exact absurd rfl h
      · rename_i hpa
        have hpa' : plainL n = true := by simpa using hpa
        unfold plainL at hpa'
        simp only [Bool.and_eq_true, List.all_eq_true] at hpa'
        exact fun x hx => .inl (hpa'.1 x hx)
theorem kindsL_all (l : List (List UInt8)) : ∀ k r, kindsL l k = some r → ∀ n ∈ l, kindL n ≠ 0 := by
  induction l with
  | nil => intro k r _ n hn; simp at hn
  | cons m l ih =>
    intro k r h n hn
    rw [kindsL_cons] at h
    split at h
    · cases h
    · rename_i h0
      split at h
      · cases h
      · rcases List.mem_cons.1 hn with e | hn
        · rw [e]; exact h0
        · exact ih _ _ h n hn
theorem path_no10 {p : ByteArray} (h : isP p = true) : 10 ∉ p.data.toList := by
  intro hx
  rcases (isP_open h).2 with ⟨h0, _⟩ | ⟨_, _, hk⟩
  · have : p.data.toList = [] := List.eq_nil_of_length_eq_zero (by rw [dlen]; exact h0)
    rw [this] at hx
    simp at hx
  · rcases sep_mem 47 p.data.toList 10 hx with e | ⟨n, hn, hxn⟩
    · exact absurd e (by decide)
    · rw [← names_sepC] at hn
      rcases kindL_mem (kindsL_all _ _ _ hk n hn) 10 hxn with e | e
      · exact absurd e (by decide)
      · exact absurd e (by decide)
theorem textL_cons (p : ByteArray) (l : List ByteArray) : textL (p :: l) = p.data.toList ++ 10 :: textL l := by
  unfold textL
  rw [List.map_cons, List.flatten_cons, List.append_assoc]
  rfl
theorem sep_text (l : List ByteArray) (h : ∀ p ∈ l, isP p = true) : sepC 10 (textL l) = l.map (·.data.toList) ++ [[]] := by
  induction l with
  | nil => rfl
  | cons p l ih =>
    rw [textL_cons, sepC_app, sepC_free 10 _ (path_no10 (h p List.mem_cons_self)), ih (fun q hq => h q (List.mem_cons_of_mem _ hq))]
    rfl
theorem parse_text {s : List ByteArray} (h : mayS s = true) : parseS (textS s).1 = (s, 0) := by
  obtain ⟨hd, _, _⟩ := may_open h
  unfold textS
  rw [if_pos h]
  dsimp only
  unfold parseS
  cases s with
  | nil => rfl
  | cons p s =>
    have h0 : (⟨(textL (p :: s)).toArray⟩ : ByteArray).size ≠ 0 := by
      rw [bsize, textL_cons]
      simp
    have hl : linesB ⟨(textL (p :: s)).toArray⟩ = (p :: s) ++ [⟨#[]⟩] := by
      unfold linesB
      have e : (⟨(textL (p :: s)).toArray⟩ : ByteArray).data.toList = textL (p :: s) := rfl
      rw [e, sep_text _ (fun q hq => (hd q hq).1), List.map_append, List.map_map]
      have e2 : ((fun x : List UInt8 => (⟨x.toArray⟩ : ByteArray)) ∘ fun x : ByteArray => x.data.toList) = id := by funext x; simp
      rw [e2, List.map_id]
      rfl
    rw [if_neg h0, hl, List.dropLast_concat, if_pos ⟨List.getLast?_concat, h⟩]
theorem has_reduce {l : List ByteArray} (hd : Dirs l) (p : ByteArray) : hasS (reduceS l) p = hasS l p := by
  obtain ⟨s1, s2, _⟩ := reduce_spec hd
  unfold hasS
  cases hp : isP p with
  | false => rfl
  | true =>
    rw [Bool.true_and, Bool.true_and, Bool.eq_iff_iff, List.any_eq_true, List.any_eq_true]
    constructor
    · rintro ⟨x, hx, h⟩; exact ⟨x, s1 x hx, h⟩
    · rintro ⟨x, hx, h⟩
      obtain ⟨y, hy, hyx⟩ := (cov_iff _ _).1 (s2 x hx)
      exact ⟨y, hy, within_trans (hd y (s1 y hy)) (hd x hx) hp hyx h⟩
theorem again_big (l0 : List ByteArray) (a1 : ByteArray) (k : Nat) (hk : 20000 ≤ k) : aquiferlaw06_ScopeAgain.f k l0 a1 = some true := by
  have hs := few_short l0
  have hn := few_len l0
  have hm := mn_150 a1.size 150 (by decide)
  have hc := cut_size a1 150 (by decide)
  unfold aquiferlaw06_ScopeAgain.f
  rw [few_fn l0 k (by omega), Option.bind_some, if_pos hm.1, if_pos hm.2.1]
  generalize fewP l0 = l at hs hn
  generalize a1.extract 0 (mn (a1.size : Int) 150).toNat = p at hc
  rw [make_fn hs k (by omega), Option.bind_some]
  by_cases h0 : (makeS l).2 = 0
  · obtain ⟨hd, m1, m2⟩ := make_ok h0
    have hrl := may_len m2
    obtain ⟨s1, _, _⟩ := reduce_spec hd
    have hrs : shortP (reduceS l) = true := shortP_mk (by omega) (fun q hq => (shortP_mem hs).2 q (s1 q hq))
    have ht : (textS (reduceS l)).1.size ≤ 65536 := by
      unfold textS
      rw [if_pos m2]
      dsimp only
      rw [bsize]
      have h96 : ∀ q ∈ reduceS l, q.data.toList.length ≤ 96 := fun q hq => (isP_open (hd q (s1 q hq)).1).1
      have : ∀ m : List ByteArray, (∀ q ∈ m, q.data.toList.length ≤ 96) → (textL m).length ≤ m.length * 97 := by
        intro m
        induction m with
        | nil => intro _; exact Nat.zero_le _
        | cons q m ih =>
          intro hq
          have i1 := ih (fun x hx => hq x (List.mem_cons_of_mem _ hx))
          have i2 := hq q List.mem_cons_self
          rw [textL_cons, List.length_append, List.length_cons, List.length_cons]
          omega
      have := this _ h96
      omega
    have hte : (textS (reduceS l)).2 = 0 := by unfold textS; rw [if_pos m2]
    rw [if_pos h0, m1, make_fn hrs k (by omega), Option.bind_some, make_may m2, text_fn hrs, Option.bind_some, parse_fn ht, Option.bind_some, parse_text m2]
    dsimp only
    rw [if_pos rfl, same_refl _ (by omega) k (by omega), Option.bind_some, if_pos rfl, may_fn hrs k (by omega), Option.bind_some, if_pos m2, if_pos hte, if_pos rfl, Option.bind_some, if_pos rfl, has_fn (by omega) (by omega), Option.bind_some, has_fn (by omega) (by omega), Option.bind_some, has_reduce hd, if_pos (by simp), works_fn k (by omega), Option.bind_some]
  · rw [if_neg h0]
    have he : (makeS l).1 = [] := by
      unfold makeS at h0 ⊢
      split
      · rfl
      · rename_i hf
        rw [hf] at h0
        dsimp only at h0
        split at h0
        · rename_i h16; rw [if_pos h16]
        · exact absurd rfl h0
    rw [he, if_pos (by rfl), works_fn k (by omega), Option.bind_some]
theorem ScopeAgain_pure (l0 : List ByteArray) (a1 : ByteArray) (_h0 : l0.length * 16 ≤ 140737488351232) (_g0 : ∀ a ∈ l0, a.size ≤ 9223372036854775807) (_g1 : a1.size ≤ 140737488351232) : ∃ k, aquiferlaw06_ScopeAgain.f k l0 a1 = some true := ⟨20000, again_big l0 a1 20000 (Nat.le_refl _)⟩
end Go.Proofs.YtkflalaocnghcaaDoor.Q

namespace Go.Proofs.YtkflalaocnghcaaDoor.scopeAgain
open Go.ChangeShapes Go.WideShapes Go.ChangeAt Go.RowKit Go.Proofs.YtkflalaocnghcaaDoorK Go.Proofs.YtkflalaocnghcaaDoorW.PrintWords Go.Proofs.YtkflalaocnghcaaDoor.Q
open Go.ChangeMaps (open_string shut_string)
set_option linter.unusedVariables false
theorem own : ownKnob Tryd.prog.godebug = none := by kernel_rfl
theorem laidOut : laidOutB Tryd.prog = true := by kernel_rfl
set_option maxRecDepth 100000 in
theorem lifted (os : Os) (started : os.Started) (H : Type) (enc : TypeId × Value → H) :
    ReturnsInHanded {} Tryd.checked os 8 .any (fun w args => (Rows.scopeAgainSpec.pre enc Tryd.prog Tryd.f8 Rows.scopeAgainRow.domain false w args ∧ laidMetH Tryd.prog Rows.scopeAgainRow.laid w) ∧ sizedMet enc Tryd.prog Tryd.f8 (OpenSpec.ofChange Rows.scopeAgainSpec) false w args) (Rows.scopeAgainSpec.post enc Tryd.prog Tryd.f8 false true false false) := by
  refine returnsInHanded_of_change_and (C := Tryd.checked) (X := fun w _ => laidMetH Tryd.prog Rows.scopeAgainRow.laid w) (fun _ _ _ hh h => h.of_heap hh) own started (by kernel_rfl) Tryd.func8
    (ChangeSpec.witness_shaped (enc := enc) (C := Tryd.checked) (os := os) (X := fun w _ => laidMetH Tryd.prog Rows.scopeAgainRow.laid w) false (World.laidAll Tryd.prog os Rows.scopeAgainRow.laid) #[.slice none 0 0, .string ByteArray.empty] 8 (World.laidAll_os _ _ _)
      (World.shaped_of_ZipB (by kernel_rfl) (by kernel_rfl)) (by kernel_rfl) (by kernel_rfl) (by kernel_rfl)
      (by rw [MakeChecks.laidMetH_plain _ _ _ (by kernel_rfl)]; exact laidMet_laidAll _ (by kernel_rfl) (by kernel_rfl))) ?_
  intro W base args ds gs before hval0 hW hcnd hsz0 _ _
  have hsz : (DataW.weightsEach Tryd.prog (Tryd.f8.params.toList ++ Rows.scopeAgainSpec.plain.varTypes Tryd.prog) (ds ++ gs)).all (· ≤ reachBytes) = true := hsz0
  have hval : ∀ (j : Nat) t v, Tryd.f8.params[j]? = some t → args[j]? = some v → Value.okWide Tryd.prog W .any base t v := hval0
  have hW' := hW
  obtain ⟨p, q, hA0, hV, rfl, hfz, hnd⟩ := hW
  have hA : DataW.TrodAll enc Tryd.prog W 0 (fun _ => true) true Tryd.f8.params.toList args.toList ds p := hA0
  rw [Tryd.params8] at hA hval hsz
  obtain ⟨v0, vs0, d0, ds0, p0, q0, hargs, rfl, rfl, h0, r0⟩ := trodAll_cons hA
  obtain ⟨v1, vs1, d1, ds1, p1, q1, rfl, rfl, rfl, h1, r1⟩ := trodAll_cons r0
  obtain ⟨rfl, rfl, rfl⟩ := trodAll_nil r1
  obtain rfl : args = #[v0, v1] := by cases args; simp_all
  obtain ⟨rfl, rfl⟩ := trodVars_none hV
  obtain ⟨a0, len0, cap0, rfl⟩ := okWide_slice Tryd.underlying22 (hval 0 22 v0 rfl rfl)
  have k0 := h0
  have lt0 : ∀ x ∈ p0, x.block < W.heap.size := by obtain ⟨m, hm⟩ := k0; exact DataW.trod_lt m _ _ _ hm
  have y0 : len0 * 16 ≤ 140737488351232 := sized_row hsz (j := 0) (t := 22) rfl rfl Tryd.underlying22 (by kernel_rfl) h0
  obtain ⟨l0, ⟨A0, c0, he0, hl0, hC0⟩, _, hG0⟩ : ∃ l, (Kd.slice 9 Kd.string).K W l [.slice a0 len0 cap0] ∧ l.length ≤ 9223372036854775807 ∧ ∀ a ∈ l, a.size ≤ 9223372036854775807 := by
    obtain ⟨fuel, hf⟩ := h0
    exact (opens_slice (e := 9) Tryd.underlying22 (by kernel_rfl) (opens_string Tryd.underlying9)) _ _ _ _ _ _ _ _ _ hf
  simp only [List.cons.injEq, Value.slice.injEq, and_true] at he0
  obtain ⟨rfl, rfl, rfl⟩ := he0
  obtain ⟨a1, rfl, rfl, rfl, y1⟩ := open_string Tryd.underlying9 (hval 1 9 v1 rfl rfl) h1
  have w1 : a1.size ≤ 140737488351232 := by
    have z := sized_string hsz (j := 1) (t := 9) rfl rfl
    rw [Array.length_toList] at z
    exact z
  clear hA0 hval0 hsz0 hsz
  obtain ⟨k, hP⟩ := ScopeAgain_pure l0 a1 y0 hG0 w1
  refine (aquiferlaw06_ScopeAgain.calls k _ _ l0 a1 true W hC0 hl0 hP).mono fun e W' he0 => ?_
  obtain ⟨rfl, bel0⟩ := he0
  have bel : Below W.heap.size W W' := bel0
  exact ⟨_, rfl, _, _, _, [], _, [], hW', trodAll_mk1 (shut_bool Tryd.underlying4 _), (trodAll_cons_mk (Below.trod laidOut (by kernel_rfl) (of_decide_eq_true (by kernel_rfl)) k0 bel lt0) (trodAll_cons_mk (shut_string Tryd.underlying9 y1) trodAll_mk0)), rfl, bel.frame _, fun h => by cases h⟩
theorem over : Rows.scopeAgainRow.holds Tryd.pinned (OpenSpec.ofChange Rows.scopeAgainSpec) :=
  OpenClaim.holds_of_wide 8 Tryd.f8 rfl rfl rfl rfl rfl rfl rfl ⟨rfl, rfl, rfl, rfl, rfl⟩ rfl rfl rfl rfl rfl (by kernel_rfl) Tryd.func8 (by kernel_rfl)
    (of_decide_eq_true (by kernel_rfl)) (by unfold Func.isWrapper; first | (rw [if_pos (by decide +kernel)]; kernel_rfl) | (rw [if_neg (by decide +kernel)]; exact ⟨rfl, rfl⟩))
    (fun os started H enc _ => lifted os started H enc)
theorem card : Rows.ScopeAgainCardSaid :=
  Claim7.holds_tied_plain_at .later [] [.data, .pinned] true (true, "067b717ea2883e1b3b9eac4b170a2c4c73abc7f928e7b64b41a4e1bdbf2de1a7") false over (fun _ h => by cases h) (by kernel_rfl) (fun _ h => by cases h) scopeAgain_row_tie rfl ⟨rfl, rfl⟩ (by kernel_rfl) rfl
    (fun f fn hf hfn => by
      obtain rfl : f = 8 := Option.some.inj ((show Tryd.prog.funcNamed "aquifer/aquiferlaw06.ScopeAgain" = some 8 by kernel_rfl).symm.trans hf) |>.symm
      obtain rfl : fn = Tryd.f8 := (Option.some.inj (Tryd.func8.symm.trans hfn)).symm
      exact ⟨by kernel_rfl, fun j t ht => by
        rw [Tryd.params8] at ht
        have hm : t ∈ [22, 9] := by simpa using Array.mem_of_getElem? ht
        have hall : ([22, 9].all fun u => !Tryd.prog.wantsStandIn u) = true := by kernel_rfl
        exact (show Tryd.prog.wantsStandIn t = false by simpa using List.all_eq_true.1 hall t hm)⟩)
    (by kernel_rfl)
theorem proved : Rows.ScopeAgainCardSaid := card
#print axioms proved
end Go.Proofs.YtkflalaocnghcaaDoor.scopeAgain
namespace Go.Proofs.YtkflalaocnghcaaDoor
/-- The card, under a short name, for the claim. -/
theorem scopeAgain_holds : Rows.ScopeAgainCardSaid := scopeAgain.proved
end Go.Proofs.YtkflalaocnghcaaDoor
