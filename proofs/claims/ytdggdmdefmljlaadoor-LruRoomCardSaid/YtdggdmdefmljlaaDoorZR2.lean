/-
What is proved: aquifer/aquiferlaw26.LruRoom answers true for every input, and leaves its arguments as they were.
-/
import Derived.Test.YtdggdmdefmljlaaDoorZR1
import Derived.Test.YtdggdmdefmljlaaDoorRows
import Derived.Test.YtdggdmdefmljlaaDoorCards
import Derived.Test.YtdggdmdefmljlaaDoorTie
import Derived.WalkKit
import Derived.ProofKit
import Derived.OpenShut
import Derived.ShutString
import Derived.ChangeOld
import Derived.Below
import Derived.SizedLaws
import Derived.LaidLaws
import Derived.LaidMore
import Derived.Lay
import Derived.SevenTiedAt
import Derived.Stop.Joined
namespace Go.Proofs.YtdggdmdefmljlaaDoor.Q
open Go Go.Proofs Go.Shelf Go.RowKit Go.Lib Go.Sort Go.Proofs.YtdggdmdefmljlaaDoorP Go.Proofs.YtdggdmdefmljlaaDoorK Go.Proofs.YtdggdmdefmljlaaDoorW.PrintWords Go.Proofs.YtdggdmdefmljlaaDoorW.PrintLast Go.Proofs.YtdggdmdefmljlaaDoorW.PrintMore
set_option linter.unusedSimpArgs false
set_option linter.unusedVariables false
/-! ### What victims are, plain -/
/-- What is left, and the last one's size. -/
def roomGo (v : List ByteArray) : Int → Int → List S35 → Int × Int
  | a, z, [] => (a, z)
  | a, z, c :: l => if isIn c.f0 v.reverse = false then roomGo v (a + c.f1) z l else if c.f0.data.toList = (v.getD (v.length - 1) ByteArray.empty).data.toList then roomGo v a c.f1 l else roomGo v a z l
def sumF : List S35 → Int
  | [] => 0
  | c :: l => c.f1 + sumF l
theorem sumF_append (a b : List S35) : sumF (a ++ b) = sumF a + sumF b := by
  induction a with
  | nil => simp [sumF]
  | cons c a ih => simp only [List.cons_append, sumF, ih]; omega
theorem sumF_perm {a b : List S35} (h : a.Perm b) : sumF a = sumF b := by
  induction h with
  | nil => rfl
  | cons x _ ih => simp only [sumF, ih]
  | swap x y l => simp only [sumF]; omega
  | trans _ _ h1 h2 => rw [h1, h2]
theorem sumF_split (p : S35 → Bool) (l : List S35) : sumF l = sumF (l.filter p) + sumF (l.filter fun c => !p c) := by
  induction l with
  | nil => rfl
  | cons c l ih =>
    rw [List.filter_cons, List.filter_cons]
    cases h : p c
    · simp only [Bool.false_eq_true, if_false, Bool.not_false, if_true, sumF]
      omega
    · simp only [if_true, Bool.not_true, Bool.false_eq_true, if_false, sumF]
      omega
theorem sumS_F (p : S35 → Bool) (l : List S35) : ∀ n, sumS p n l = n + sumF (l.filter p) := by
  induction l with
  | nil => intro n; simp [sumS, sumF]
  | cons c l ih =>
    intro n
    simp only [sumS]
    rw [ih, List.filter_cons]
    cases h : p c
    · simp
    · simp only [if_true, sumF]
      omega
theorem total_F (p : S35 → Bool) (l : List S35) (h : checkS l = 0) : totalS p l = sumF (l.filter p) := by
  unfold totalS
  rw [if_pos h, sumS_F]
  omega
theorem mem_is {s : ByteArray} {L : List ByteArray} : isIn s L = true ↔ s ∈ L := by
  unfold isIn
  rw [List.any_eq_true]
  constructor
  · rintro ⟨x, hx, h⟩
    have e : s = x := ByteArray.ext (Array.ext' (beq_iff_eq.1 h))
    rw [e]
    exact hx
  · intro h
    exact ⟨s, h, by simp⟩
theorem vicGo_cut (q : Int) : ∀ (o : List S35) (m : Int), ∃ j, j ≤ o.length ∧ vicGo q m o = (o.take j).map (·.f0) ∧ (j < o.length → m - sumF (o.take j) ≤ q) ∧ (∀ i, i < j → q < m - sumF (o.take i)) := by
  intro o
  induction o with
  | nil => intro m; exact ⟨0, Nat.le_refl _, rfl, fun h => absurd h (Nat.lt_irrefl 0), fun i hi => absurd hi (Nat.not_lt_zero i)⟩
  | cons c o ih =>
    intro m
    simp only [vicGo]
    by_cases h : m ≤ q
    · rw [if_pos h]
      exact ⟨0, Nat.zero_le _, rfl, fun _ => by simp [sumF]; omega, fun i hi => absurd hi (Nat.not_lt_zero i)⟩
    · rw [if_neg h]
      obtain ⟨j, h1, h2, h3, h4⟩ := ih (m - c.f1)
      refine ⟨j + 1, by simp only [List.length_cons]; omega, by rw [h2]; rfl, fun hj => ?_, fun i hi => ?_⟩
      · have := h3 (by simp only [List.length_cons] at hj; omega)
        simp only [List.take_succ_cons, sumF]
        omega
      · cases i with
        | zero => simp only [List.take_zero, sumF]; omega
        | succ i =>
          have := h4 i (by omega)
          simp only [List.take_succ_cons, sumF]
          omega
theorem roomGo_fst (v : List ByteArray) (l : List S35) : ∀ a z, (roomGo v a z l).1 = a + sumF (l.filter fun c => !isIn c.f0 v.reverse) := by
  induction l with
  | nil => intro a z; simp [roomGo, sumF]
  | cons c l ih =>
    intro a z
    simp only [roomGo]
    rw [List.filter_cons]
    cases h : isIn c.f0 v.reverse
    · rw [if_pos rfl, ih]
      simp only [Bool.not_false, if_true, sumF]
      omega
    · rw [if_neg (by decide)]
      simp only [Bool.not_true, Bool.false_eq_true, if_false]
      split <;> rw [ih]
theorem roomGo_snd (v : List ByteArray) (D : Int) (l : List S35) : ∀ a z, (∀ c ∈ l, c.f0 = v.getD (v.length - 1) ByteArray.empty → c.f1 = D) → (z = D ∨ ∃ c ∈ l, isIn c.f0 v.reverse = true ∧ c.f0 = v.getD (v.length - 1) ByteArray.empty) → (roomGo v a z l).2 = D := by
  induction l with
  | nil =>
    rintro a z _ (h | ⟨c, hc, _⟩)
    · exact h
    · simp at hc
  | cons c l ih =>
    intro a z hu h
    have hu' : ∀ d ∈ l, d.f0 = v.getD (v.length - 1) ByteArray.empty → d.f1 = D := fun d hd => hu d (by simp [hd])
    simp only [roomGo]
    by_cases hg : isIn c.f0 v.reverse = false
    · rw [if_pos hg]
      refine ih _ _ hu' ?_
      rcases h with h | ⟨d, hd, h1, h2⟩
      · exact .inl h
      · rcases List.mem_cons.1 hd with rfl | hd
        · rw [hg] at h1; exact absurd h1 (by decide)
        · exact .inr ⟨d, hd, h1, h2⟩
    · rw [if_neg hg]
      by_cases he : c.f0.data.toList = (v.getD (v.length - 1) ByteArray.empty).data.toList
      · rw [if_pos he]
        exact ih _ _ hu' (.inl (hu c (by simp) (ByteArray.ext (Array.ext' he))))
      · rw [if_neg he]
        refine ih _ _ hu' ?_
        rcases h with h | ⟨d, hd, h1, h2⟩
        · exact .inl h
        · rcases List.mem_cons.1 hd with rfl | hd
          · exact absurd (by rw [h2]) he
          · exact .inr ⟨d, hd, h1, h2⟩
theorem vic_what {l : List S35} {q n : Int} (h : (victimsS l q n).2 = 0) : checkS l = 0 ∧ boundB q = true ∧ 0 ≤ n ∧ n ≤ 4096 ∧ totalS fixedC l + n ≤ q ∧ (victimsS l q n).1 = vicGo q (totalS (fun _ => true) l + n) (orderS l) := by
  unfold victimsS at h ⊢
  by_cases h0 : checkS l ≠ 0
  · rw [if_pos h0] at h
    exact absurd h h0
  · rw [if_neg h0] at h ⊢
    by_cases h1 : boundB q = false ∨ n < 0 ∨ 4096 < n
    · rw [if_pos h1] at h
      exact absurd h (by decide)
    · rw [if_neg h1] at h ⊢
      by_cases h2 : q < totalS fixedC l + n
      · rw [if_pos h2] at h
        exact absurd h (by decide)
      · rw [if_neg h2]
        simp only [not_or, Bool.not_eq_false, Int.not_lt] at h1
        exact ⟨by simpa using h0, h1.1, h1.2.1, h1.2.2, by omega, rfl⟩
theorem vic_none {l : List S35} {q n : Int} (h : (victimsS l q n).2 ≠ 0) : (victimsS l q n).1 = [] := by
  unfold victimsS at h ⊢
  split
  · rfl
  · rename_i h0
    rw [if_neg h0] at h
    split
    · rfl
    · rename_i h1
      rw [if_neg h1] at h
      split
      · rfl
      · rename_i h2
        rw [if_neg h2] at h
        exact absurd rfl h
structure RoomFacts (l : List S35) (q n : Int) (v : List ByteArray) (lf la : Int) : Prop where
  hq : 0 ≤ q ∧ q ≤ 4611686018427387904
  hn : 0 ≤ n ∧ n ≤ 4096
  hok : ∀ c ∈ l, 0 ≤ c.f1 ∧ c.f1 ≤ 4096
  hvl : v.length ≤ l.length
  hvs : ∀ s ∈ v, ∃ c ∈ l, c.f0 = s
  hnew : ∀ j (h : j < v.length), isIn v[j] (v.take j).reverse = false
  hfix : ∀ c ∈ l, isIn c.f0 v.reverse = true → c.f3 = false ∧ c.f4 = false
  hroom : roomGo v 0 0 l = (lf, la)
  hle : lf ≤ q - n
  hla : v ≠ [] → q - n < lf + la
  hord : ∀ a ∈ l, ∀ b ∈ l, isIn a.f0 v.reverse = true → isIn b.f0 v.reverse = false → b.f3 = false → b.f4 = false → ¬ b.f2 < a.f2 ∧ (a.f2 = b.f2 → ¬ 0 < pcmp a.f0 b.f0)
theorem order_facts {l : List S35} (h : checkS l = 0) : (orderS l).Perm (freeL l) ∧ (orderS l).Pairwise leC ∧ Apart35 (orderS l) := by
  have hp : (orderS l).Perm (freeL l) := by
    unfold orderS
    rw [if_pos h]
    exact sortC_perm _
  refine ⟨hp, ?_, ?_⟩
  · unfold orderS
    rw [if_pos h]
    exact sortC_sorted _
  · have ha : Apart35 (freeL l) := List.Pairwise.filter _ (check_apart h)
    exact hp.symm.pairwise ha (fun h => Ne.symm h)
theorem last_map (a : List S35) (x : S35) : ((a ++ [x]).map (·.f0)).getD (((a ++ [x]).map (·.f0)).length - 1) ByteArray.empty = x.f0 := by
  simp [List.getD_eq_getElem?_getD]
theorem room_facts (l : List S35) (q n : Int) (h : (victimsS l q n).2 = 0) : ∃ lf la, RoomFacts l q n (victimsS l q n).1 lf la := by
  obtain ⟨h0, hb, hn0, hn1, hF, hv⟩ := vic_what h
  obtain ⟨hp, hso, hap⟩ := order_facts h0
  obtain ⟨hlen, hall⟩ := check_ok h0
  rw [hv]
  obtain ⟨j, hj, hc, hstop, hgo⟩ := vicGo_cut q (orderS l) (totalS (fun _ => true) l + n)
  rw [hc]
  rw [total_F _ _ h0] at hstop hgo
  rw [total_F _ _ h0] at hF
  have hT : l.filter (fun _ => true) = l := List.filter_eq_self.2 (fun _ _ => rfl)
  rw [hT] at hstop hgo
  have hla := check_apart h0
  generalize orderS l = o at hp hso hap hj hstop hgo
  have hmem : ∀ d, d ∈ o ↔ d ∈ l ∧ fixedC d = false := fun d => by
    rw [hp.mem_iff]
    unfold freeL
    rw [List.mem_filter]
    simp
  have hin : ∀ s, isIn s ((o.take j).map (·.f0)).reverse = true ↔ ∃ d ∈ o.take j, d.f0 = s := fun s => by
    rw [mem_is, List.mem_reverse, List.mem_map]
  have hsub : ∀ d ∈ o.take j, d ∈ l ∧ fixedC d = false := fun d hd => (hmem d).1 (List.mem_of_mem_take hd)
  have hgone : ∀ c ∈ l, isIn c.f0 ((o.take j).map (·.f0)).reverse = true → c ∈ o.take j := fun c hcl hg => by
    obtain ⟨d, hd, e⟩ := (hin _).1 hg
    have := apart_eq hla d (hsub d hd).1 c hcl e
    rw [← this]
    exact hd
  have hcut : o.take j ++ o.drop j = o := List.take_append_drop j o
  have hap2 : (o.take j ++ o.drop j).Pairwise (fun a b => a.f0 ≠ b.f0) := by rw [hcut]; exact hap
  have hso2 : (o.take j ++ o.drop j).Pairwise leC := by rw [hcut]; exact hso
  rw [List.pairwise_append] at hap2 hso2
  have hfg : l.filter (fun c => isIn c.f0 ((o.take j).map (·.f0)).reverse) = (freeL l).filter (fun c => isIn c.f0 ((o.take j).map (·.f0)).reverse) := by
    unfold freeL
    rw [List.filter_filter]
    apply List.filter_congr
    intro c hcl
    cases hg : isIn c.f0 ((o.take j).map (·.f0)).reverse
    · rfl
    · have := (hsub c (hgone c hcl hg)).2
      rw [this]
      rfl
  have hfo : o.filter (fun c => isIn c.f0 ((o.take j).map (·.f0)).reverse) = o.take j := by
    conv => lhs; arg 2; rw [← hcut]
    rw [List.filter_append, List.filter_eq_self.2 (fun c hc => (hin _).2 ⟨c, hc, rfl⟩), List.filter_eq_nil_iff.2, List.append_nil]
    intro c hc hg
    obtain ⟨d, hd, e⟩ := (hin _).1 hg
    exact hap2.2.2 d hd c hc e
  have hsum : sumF (l.filter fun c => !isIn c.f0 ((o.take j).map (·.f0)).reverse) = sumF l - sumF (o.take j) := by
    have h1 := sumF_split (fun c => isIn c.f0 ((o.take j).map (·.f0)).reverse) l
    have h2 := sumF_perm (hp.filter (fun c => isIn c.f0 ((o.take j).map (·.f0)).reverse))
    rw [hfo] at h2
    rw [hfg, ← h2] at h1
    omega
  have hgo1 := roomGo_fst ((o.take j).map (·.f0)) l 0 0
  rw [hsum] at hgo1
  refine ⟨(roomGo ((o.take j).map (·.f0)) 0 0 l).1, (roomGo ((o.take j).map (·.f0)) 0 0 l).2, ⟨(boundB_iff q).1 hb, ⟨hn0, hn1⟩, fun c hc => ⟨(hall c hc).1, (hall c hc).2.1⟩, ?_, ?_, ?_, ?_, rfl, ?_, ?_, ?_⟩⟩
  · rw [List.length_map, List.length_take]
    have := hp.length_eq
    have h2 := List.length_filter_le (fun c => !fixedC c) l
    unfold freeL at this
    omega
  · intro s hs
    obtain ⟨d, hd, e⟩ := List.mem_map.1 hs
    exact ⟨d, (hsub d hd).1, e⟩
  · intro i hi
    rw [Bool.eq_false_iff]
    intro hg
    rw [mem_is, List.mem_reverse] at hg
    have hi' : i < (o.take j).length := by rw [List.length_map] at hi; exact hi
    have hnd : ((o.take j).map (·.f0)).Pairwise (· ≠ ·) := by
      rw [List.pairwise_map]
      exact hap2.1
    obtain ⟨k, hk, e⟩ := List.getElem_of_mem hg
    have hki : k < i := by rw [List.length_take] at hk; omega
    have := List.pairwise_iff_getElem.1 hnd k i (by omega) hi hki
    apply this
    rw [← e]
    simp
  · intro c hcl hg
    have := (hsub c (hgone c hcl hg)).2
    unfold fixedC at this
    simpa using this
  · rw [hgo1]
    by_cases hje : j < o.length
    · have := hstop hje
      omega
    · rw [List.take_of_length_le (by omega), sumF_perm hp]
      have := sumF_split fixedC l
      unfold freeL
      omega
  · intro hne
    have hjp : 0 < j := by
      rcases Nat.eq_zero_or_pos j with h | h
      · subst h
        exact absurd rfl hne
      · exact h
    have hjl : j - 1 < o.length := by omega
    have htk : o.take j = o.take (j - 1) ++ [o[j - 1]] := by
      rw [← List.take_succ_eq_append_getElem hjl, show j - 1 + 1 = j by omega]
    have hlast : ((o.take j).map (·.f0)).getD (((o.take j).map (·.f0)).length - 1) ByteArray.empty = o[j - 1].f0 := by
      rw [htk]
      exact last_map _ _
    have hdl := (hmem o[j - 1]).1 (List.getElem_mem hjl)
    have hdt : o[j - 1] ∈ o.take j := by rw [htk]; exact List.mem_append_right _ (List.mem_singleton.2 rfl)
    have hgo2 := roomGo_snd ((o.take j).map (·.f0)) o[j - 1].f1 l 0 0 (by
      intro c hcl e
      rw [hlast] at e
      rw [apart_eq hla c hcl _ hdl.1 e]) (.inr ⟨o[j - 1], hdl.1, (hin _).2 ⟨_, hdt, rfl⟩, hlast.symm⟩)
    rw [hgo1, hgo2]
    have h1 := hgo (j - 1) (by omega)
    have h2 : sumF (o.take j) = sumF (o.take (j - 1)) + o[j - 1].f1 := by
      conv => lhs; rw [htk]
      rw [sumF_append]
      simp [sumF]
    omega
  · intro a hal b hbl ha hb' h3 h4
    have hat := hgone a hal ha
    have hbo : b ∈ o := (hmem b).2 ⟨hbl, by unfold fixedC; rw [h3, h4]; rfl⟩
    rw [← hcut] at hbo
    have hbd : b ∈ o.drop j := by
      rcases List.mem_append.1 hbo with h | h
      · have := (hin b.f0).2 ⟨b, h, rfl⟩
        rw [this] at hb'
        exact absurd hb' (by decide)
      · exact h
    have hle := hso2.2.2 a hat b hbd
    unfold leC cfC cmpK keyC at hle
    dsimp only at hle
    refine ⟨fun hlt => hle ?_, fun he hpc => hle ?_⟩
    · have : Lib.compareInt b.f2 a.f2 = -1 := by unfold Lib.compareInt; rw [if_pos hlt]
      rw [this, if_neg (by decide)]
      decide
    · have : Lib.compareInt b.f2 a.f2 = 0 := by unfold Lib.compareInt; rw [he]; simp
      rw [this, if_pos rfl]
      exact (good_path.lt _ _).2 hpc
end Go.Proofs.YtdggdmdefmljlaaDoor.Q

namespace Go.Proofs.YtdggdmdefmljlaaDoorK
open Go Go.ChangeMaps Go.MapKept Go.WideShapes Go.WideMaps
/-! A set of strings kept by a map[string]bool, whose length is known: each was told once. -/
section
variable {P : Program} {mt kt et : TypeId}
/-- Seen, and the strings in it are as many as seen's. -/
def SeenN (P : Program) (kt et : TypeId) (W : World) (b n : Nat) (seen : List ByteArray) : Prop :=
  ∃ D : DataW Unit, W.ownsMap P kt (plainElem P et) b n D ∧ Maps.IsMap D ∧ (∀ s : ByteArray, D.atKey (.string s.data.toList) (.lit (.bool false)) = .lit (.bool (isIn s seen))) ∧ (∀ s : ByteArray, Maps.has D (.string s.data.toList) = isIn s seen) ∧ Maps.size D = seen.length
theorem SeenN.seen {W : World} {b n : Nat} {l : List ByteArray} (h : SeenN P kt et W b n l) : Seen P kt et W b n l := by
  obtain ⟨D, h1, h2, h3, _⟩ := h
  exact ⟨D, h1, h2, h3⟩
theorem seenN_made (W : World) : SeenN P kt et (W.alloc (.map #[] 0)) W.heap.size 0 [] :=
  ⟨.map [], World.ownsMap_made W P kt _, ⟨[], rfl⟩, fun s => by simp [DataW.atKey, isIn], fun s => by simp [Maps.has, isIn], by simp [Maps.size]⟩
theorem seenN_block {W W' : World} {b n : Nat} {l : List ByteArray} (h : SeenN P kt et W b n l) (hb : W'.heap[b]? = W.heap[b]?) : SeenN P kt et W' b n l := by
  obtain ⟨D, ⟨es, clock, g1, g2⟩, h2⟩ := h
  exact ⟨D, ⟨es, clock, hb.trans g1, g2⟩, h2⟩
theorem seenN_lt {W : World} {b n : Nat} {l : List ByteArray} (h : SeenN P kt et W b n l) : b < W.heap.size := by
  obtain ⟨D, h1, _⟩ := h
  exact h1.lt
theorem seenN_prev {W W' : World} {T : Touch} {b n : Nat} {l : List ByteArray} (h : SeenN P kt et W b n l) [p : Prev W' W T] [a : Apart b T] : SeenN P kt et W' b n l := seenN_block h (p.out.block b (seenN_lt h) a.out)
theorem seenN_put (hm : P.underlying mt = some (.map kt et)) (hk : P.underlying kt = some .string) (he : P.underlying et = some .bool)
    {W : World} {b n : Nat} {l : List ByteArray} (h : SeenN P kt et W b n l) (hn : n < maxLen) (s : ByteArray) (hs : s.size ≤ maxLen) (hnew : isIn s l = false) :
    ∃ W', (Instr.mapUpdate mt (.map (some b)) (.string s) (.bool true)).run P W = .ok () W' ∧ SeenN P kt et W' b (n + 1) (s :: l) ∧ W.grownBy W' (some b) := by
  obtain ⟨D, h1, h2, h3, h4, h5⟩ := h
  have hkey := keyOf_string_mk hk hs
  obtain ⟨W', hrun, r1, r2⟩ := h1.update (Maps.string_keyed hk) hm hn hkey (plainElem_bool he true)
  refine ⟨W', hrun, ⟨_, r1, r1.isMap, fun x => ?_, fun x => ?_, ?_⟩, r2⟩
  · by_cases hx : x = s
    · subst hx
      rw [Maps.atKey_put_same h2 (by trivial), isIn_cons]
      simp
    · have hne : (Lit.string x.data.toList) ≠ Lit.string s.data.toList := fun e => hx (by
        injection e with e
        exact ByteArray.ext (Array.ext' e))
      rw [Maps.atKey_put_other hne, h3 x, isIn_cons]
      have hb : (x.data.toList == s.data.toList) = false := beq_eq_false_iff_ne.mpr (fun e => hne (by rw [e]))
      rw [hb, Bool.false_or]
  · by_cases hx : x = s
    · subst hx
      rw [Maps.has_put_same h2 (by trivial), isIn_cons]
      simp
    · have hne : (Lit.string x.data.toList) ≠ Lit.string s.data.toList := fun e => hx (by
        injection e with e
        exact ByteArray.ext (Array.ext' e))
      rw [Maps.has_put_other hne, h4 x, isIn_cons]
      have hb : (x.data.toList == s.data.toList) = false := beq_eq_false_iff_ne.mpr (fun e => hne (by rw [e]))
      rw [hb, Bool.false_or]
  · rw [Maps.size_put (h1.tidy (Maps.string_keyed hk)), h4 s, hnew, h5]
    rfl
end
section
variable {P : Program} {ops : Array Oper} {rest : List Oper} {o : Oper} {a : Act} {Q : Exit → Act → World → Prop} {W : World}
/-- 'm[s] = true' of a new s, at the operation. -/
theorem seenN_tell {mt kt et : TypeId} (hgd : o.guard = none) (m x v : Operand) (hop : o.op = Op.mapUpdate mt m x v) (hm : P.underlying mt = some (.map kt et)) (hk : P.underlying kt = some .string) (he : P.underlying et = some .bool)
    {b n : Nat} {l : List ByteArray} (h : SeenN P kt et W b n l) (hn : n < maxLen) (s : ByteArray) (hs : s.size ≤ maxLen) (hnew : isIn s l = false) (h1 : a.eval m = .map (some b)) (h2 : a.eval x = .string s) (h3 : a.eval v = .bool true)
    (hK : ∀ W', SeenN P kt et W' b (n + 1) (s :: l) → W.grownBy W' (some b) → wpList P ops Q rest (a.put o.dst undef) W') : wpList P ops Q (o :: rest) a W := by
  refine wpList_plain hgd fun K' hK' => ?_
  obtain ⟨W', hrun, r1, r2⟩ := seenN_put hm hk he h hn s hs hnew
  unfold Oper.wp
  simp [execOp, hop, h1, h2, h3, hrun, Result.andThen]
  exact hK' _ _ (hK W' r1 r2)
/-- 'len(m)' at the operation. -/
theorem seenN_len {mt kt et : TypeId} (hgd : o.guard = none) (m : Operand) (hop : o.op = Op.call { callee := Callee.builtin Builtin.len, args := #[m], argTypes := #[mt] }) (hm : P.underlying mt = some (.map kt et))
    {b n : Nat} {l : List ByteArray} (h : SeenN P kt et W b n l) (h1 : a.eval m = .map (some b))
    (hK : wpList P ops Q rest (a.put o.dst (.int .i64 l.length)) W) : wpList P ops Q (o :: rest) a W := by
  obtain ⟨D, h2, _, _, _, h3⟩ := h
  refine wpList_len_own _ hgd m mt hop kt et hm _ b n D h1 h2 ?_
  rw [h3]
  exact hK
end
end Go.Proofs.YtdggdmdefmljlaaDoorK

namespace Go.Proofs.YtdggdmdefmljlaaDoor.Q
open Go Go.Proofs Go.Shelf Go.RowKit Go.Lib Go.Sort Go.Proofs.YtdggdmdefmljlaaDoorP Go.Proofs.YtdggdmdefmljlaaDoorK Go.Proofs.YtdggdmdefmljlaaDoorW.PrintWords Go.Proofs.YtdggdmdefmljlaaDoorW.PrintLast Go.Proofs.YtdggdmdefmljlaaDoorW.PrintMore
set_option linter.unusedSimpArgs false
set_option linter.unusedVariables false
/-! ### the law LruRoom: the walk -/
theorem c_str {w : World} {A : Option Addr} {xs : List ByteArray} (h : Kd.C Kd.string w A xs.length xs) (i : Nat) (hi : i < xs.length) : ∃ ad, A = some ad ∧ w.cell? (ad.add i) = some (.string xs[i]) := by
  obtain ⟨ad, e, hc⟩ := h.2.2 (by omega)
  obtain ⟨c, hl, hr, hcell⟩ := hc i xs[i] (List.getElem?_eq_getElem hi)
  refine ⟨ad, e, ?_⟩
  have hr' : c = [.string xs[i]] := hr
  have := hcell 0 (.string xs[i]) (by rw [hr']; rfl)
  have hz : i * Kd.string.sz + 0 = i := by show i * 1 + 0 = i; omega
  rw [hz] at this
  exact this
attribute [local go_sem] cell_held frozen_held
theorem works_c (W : World) : Calls Tryd.prog 18 #[] W fun e w' => e = .returned (.bool true) ∧ Below W.heap.size W w' := aquiferlaw26_works.calls _ W works_fn
theorem cmp_bel (W : World) (a b : ByteArray) (ha : a.size ≤ 65536) (hb : b.size ≤ 65536) : Calls Tryd.prog 20 #[.string a, .string b] W fun e w' => e = .returned (.int .i64 (pcmp a b)) ∧ Below W.heap.size W w' := by
  refine (cmp_any W a b (by omega) (by omega)).mono ?_
  rintro e w' ⟨rfl, q, os, rfl⟩
  exact ⟨rfl, rfl, rfl, rfl, by simp [grow], fun b hb => Array.getElem?_append_left hb⟩
set_option maxRecDepth 100000 in
set_option maxHeartbeats 8000000 in
theorem room_yes (w : World) (A0 : Option Addr) (c0 : Nat) (l0 l : List S35) (q n : Int) (k : Nat) (v : List ByteArray) (lf la : Int) (hC : k35.C w A0 l0.length l0) (hc0 : l0.length ≤ c0) (hfew : aquiferlaw26_few.f k l0 = some l)
    (hvic : lru_Victims.f l q n = some (v, 0)) (hlen : l.length ≤ 40) (hsl : ∀ c ∈ l, c.f0.size ≤ 65536) (hvl : v.length ≤ 40) (hvs : ∀ s ∈ v, s.size ≤ 65536)
    (hok : ∀ c ∈ l, 0 ≤ c.f1 ∧ c.f1 ≤ 4096) (hq : 0 ≤ q ∧ q ≤ 4611686018427387904) (hn : 0 ≤ n ∧ n ≤ 4096)
    (hnew : ∀ j (h : j < v.length), isIn v[j] (v.take j).reverse = false)
    (hfix : ∀ c ∈ l, isIn c.f0 v.reverse = true → c.f3 = false ∧ c.f4 = false)
    (hroom : roomGo v 0 0 l = (lf, la)) (hle : lf ≤ q - n) (hla : v ≠ [] → q - n < lf + la)
    (hord : ∀ a ∈ l, ∀ b ∈ l, isIn a.f0 v.reverse = true → isIn b.f0 v.reverse = false → b.f3 = false → b.f4 = false → ¬ b.f2 < a.f2 ∧ (a.f2 = b.f2 → ¬ 0 < pcmp a.f0 b.f0)) :
    Calls Tryd.prog 4 #[.slice A0 l0.length c0, .int .i64 q, .int .i64 n] w fun e w' => e = .returned (.bool true) ∧ Below w.heap.size w w' := by
  have hu35 := Tryd.underlying35
  have hu33 := Tryd.underlying33
  have hu9 := Tryd.underlying9
  have hu4 := Tryd.underlying4
  have hfw := fun (W : World) (h : k35.C W A0 l0.length l0) => aquiferlaw26_few.calls k A0 c0 l0 l W h hc0 hfew
  have HFW := Aside0.mk hfw
  have hvc := fun (A : Option Addr) (c : Nat) (W : World) (h : k35.C W A l.length l) (hc : l.length ≤ c) => lru_Victims.calls A c l q n v 0 W h hc hvic
  have HVC := Aside0.mk hvc
  have HC := Aside0.mk hC
  have HLS := Aside0.mk hsl
  have HVS := Aside0.mk hvs
  have HOK := Aside0.mk hok
  have HNEW := Aside0.mk hnew
  have HFIX := Aside0.mk hfix
  have HROOM := Aside0.mk hroom
  have HLA := Aside0.mk hla
  have HORD := Aside0.mk hord
  have HLE := Aside0.mk hle
  clear hC hc0 hfew hvic hsl hvs hok hnew hfix hroom hla hord hfw hvc hle
  have hmm := @run_makeMap Tryd.prog
  go_enter Tryd.func4, Tryd.ntmps4
  go_wp2_with fail
  refine (HFW.out _ ?hC).mono ?_
  case hC => exact HC.out
  rintro e w1 ⟨v1, rfl, hv1, hb⟩
  have p1 := prev_call hb
  obtain ⟨A, c, rfl⟩ := Kd.R_slice hv1
  have hcl := (Kd.R_reads' hv1).2.1
  have HCL := Aside0.mk (Kd.R_reads' hv1).2.2
  clear hb hv1
  go_wp2_with fail
  refine (HVC.out _ _ _ ?hC ?hc).mono ?_
  case hC => exact HCL.out
  case hc => exact hcl
  rintro e w2 ⟨v2, rfl, hv2, hb⟩
  have p2 := prev_call hb
  obtain ⟨A2, c2, rfl⟩ := Kd.R_slice hv2
  have HV := Aside0.mk (Kd.R_reads' hv2).2.2
  have HL := Aside0.mk (Kd.C_below HCL.out hb)
  have oW : OwnB w.heap.size (.above w2.heap.size) := own_above (siz w w2)
  clear hb hv2 HCL
  go_wp2_with fail
  go_loopw [40] (fun i wr => ∃ j : Nat, j ≤ v.length ∧ i = .int .i64 (j : Int) ∧ Aside0 (SeenN Tryd.prog 9 4 wr w2.heap.size j (v.take j).reverse) ∧ Aside0 (Below w2.heap.size w2 wr)) (fun i _ => v.length - (intOf i).toNat)
  case atStart => exact ⟨0, Nat.zero_le _, rfl, ⟨seenN_made _⟩, ⟨bel _ _⟩⟩
  case round =>
    obtain ⟨j, hj, rfl, HS, HB⟩ := hrel
    have pr := prev_above HB.out
    have sb := HB.out.size
    by_cases hlt : j < v.length
    · obtain ⟨ad, e, x0⟩ := c_str (Kd.C_below HV.out HB.out) j hlt
      subst e
      have hnw := HNEW.out j hlt
      have hsz := HVS.out _ (List.getElem_mem hlt)
      have htk : (v.take (j + 1)).reverse = v[j] :: (v.take j).reverse := by rw [List.take_succ_eq_append_getElem hlt, List.reverse_append]; rfl
      generalize v[j] = x at x0 hnw hsz htk
      have HTK := Aside0.mk htk
      have HNW := Aside0.mk hnw
      have HSZ : Aside0 (x.size ≤ maxLen) := ⟨Nat.le_trans hsz (by decide)⟩
      have HJ : Aside0 (j < maxLen) := ⟨Nat.lt_of_lt_of_le (show j < 65536 by omega) (by decide)⟩
      clear htk hnw hsz
      go_wp2_with (first
        | ((with_reducible refine gate_ (Op.mapUpdate 33 (.tmp 44) (.tmp 45) (.const (.bool true))) rfl ?_); refine seenN_tell rfl (.tmp 44) (.tmp 45) (.const (.bool true)) rfl hu33 hu9 hu4 HS.out HJ.out x HSZ.out HNW.out rfl rfl rfl ?_; intro w6 hS6 hg6; have p6 := prev_row hg6; have HS6 := Aside0.mk hS6; clear hS6 hg6))
      go_roundw
      case rel => exact ⟨j + 1, by omega, by go_num, ⟨by rw [HTK.out]; exact HS6.out⟩, ⟨(inferInstance : Bel w2.heap.size w2 w6).out (Nat.le_refl _)⟩⟩
      case measure => simp [intOf]; omega
    · have HSV := HS.out
      rw [List.take_of_length_le (by omega)] at HSV
      have HG := Aside0.mk HSV
      clear HS HSV
      rename World => w3
      have hba : Aside0 (Below w2.heap.size w2 w3) := HB
      go_wp2_with fail
      go_loopw [12, 13, 49] (fun a z i wr => ∃ j : Nat, ∃ m y : Int, j ≤ l.length ∧ i = .int .i64 (j : Int) ∧ a = .int .i64 m ∧ z = .int .i64 y ∧ 0 ≤ m ∧ m ≤ 4096 * j ∧ 0 ≤ y ∧ y ≤ 4096 ∧ Aside0 (roomGo v m y (l.drop j) = (lf, la)) ∧ Aside0 (SeenN Tryd.prog 9 4 wr w2.heap.size v.length v.reverse) ∧ Aside0 (Below w2.heap.size w2 wr)) (fun a z i _ => l.length - (intOf i).toNat)
      case atStart => exact ⟨0, 0, 0, Nat.zero_le _, rfl, rfl, rfl, Int.le_refl _, by omega, Int.le_refl _, by omega, HROOM, ⟨by have := HG.out; rwa [show j = v.length by omega] at this⟩, hba⟩
      case round =>
        clear HG hba HB pr sb hj hlt
        obtain ⟨i, m, y, hj, rfl, rfl, rfl, hm0, hm1, hy0, hy1, HI, HS, HB⟩ := hrel
        have pr := prev_above HB.out
        have sb := HB.out.size
        have sb2 := seenN_lt HS.out
        by_cases hlt : i < l.length
        · obtain ⟨ad, e, x0⟩ := C35_at HL.out i hlt
          subst e
          have hd := List.drop_eq_getElem_cons hlt
          have hI := HI.out
          rw [hd] at hI
          have hfx := HFIX.out _ (List.getElem_mem hlt)
          obtain ⟨k1, k2⟩ := HOK.out _ (List.getElem_mem hlt)
          have hsz := HLS.out _ (List.getElem_mem hlt)
          generalize l[i] = x at x0 hI hfx k1 k2 hsz
          simp only [roomGo] at hI
          have HX := Aside0.mk (At_below x0 HB.out)
          have HSZ : Aside0 (x.f0.size ≤ maxLen) := ⟨Nat.le_trans hsz (by decide)⟩
          clear hd x0 HI hsz
          generalize hbi : isIn x.f0 v.reverse = bi at hI hfx
          have HBI := Aside0.mk hbi
          cases bi
          · rw [if_pos rfl] at hI
            have HI := Aside0.mk hI
            clear hI hfx hbi
            go_wp2_with (first
              | ((with_reducible refine gate_dst (N := 52) rfl ?_); refine seg_load rfl 35 (.tmp 51) rfl HX.out (A35 x) rfl rfl hu35 rfl info35s ?_)
              | ((with_reducible refine gate_store (t := 35) (p := 15) rfl ?_); refine box_store rfl rfl 35 (.tmp 15) (.tmp 52) rfl held (A35 x) rfl rfl info35s (by rfl) (by rfl) ?_
                 intro w7 hx7 hg7
                 have p7 := prev_row hg7
                 have h7 : Holds w7 wr.heap.size (.cells (A35 x) 35) := ⟨hx7⟩
                 have a7 : Apart w2.heap.size (.row wr.heap.size) := apart_ne (by omega)
                 have o7 : OwnB w2.heap.size (.row wr.heap.size) := own_row sb
                 have HS7 := Aside0.mk (seenN_prev (W' := w7) (seenN_prev (W' := wr.alloc (.cells Z35 35)) HS.out))
                 clear hx7 hg7)
              | ((with_reducible refine gate_dst (N := 57) rfl ?_); refine seen_ask rfl (.tmp 54) (.tmp 56) rfl hu33 hu9 hu4 zero4 (SeenN.seen HS7.out) x.f0 HSZ.out rfl rfl ?_; rw [HBI.out]))
            go_roundw
            case rel => exact ⟨i + 1, m + x.f1, y, by omega, by go_num, by go_num, rfl, by omega, by omega, hy0, hy1, HI, HS7, ⟨(inferInstance : Bel w2.heap.size w2 w7).out (Nat.le_refl _)⟩⟩
            case measure => simp [intOf]; omega
          · rw [if_neg (by decide)] at hI
            obtain ⟨f3, f4⟩ := hfx rfl
            obtain ⟨vm, hvm⟩ : ∃ vm, v.length = vm + 1 := by
              cases hv : v with
              | nil => rw [hv] at hbi; simp [isIn] at hbi
              | cons => exact ⟨_, rfl⟩
            have hvlt : vm < v.length := by omega
            have hge : v.getD (v.length - 1) ByteArray.empty = v[vm] := by
              rw [show v.length - 1 = vm by omega]
              simp [List.getD_eq_getElem?_getD, hvlt]
            rw [hge] at hI
            have d0 : decide (0 < (v.length : Int)) = true := decide_eq_true (by omega)
            have d0' : decide (0 < v.length) = true := decide_eq_true (by omega)
            have d1 : IntKind.i64.wrap ((v.length : Int) - 1) = (vm : Int) := by rw [hvm]; show IntKind.i64.wrap (((vm + 1 : Nat) : Int) - 1) = _; simp only [i64_w]; unfold wrap64; omega
            have d2 := eq_true (show 0 ≤ (vm : Int) by omega)
            have d3 := eq_true (show (vm : Int) < (v.length : Int) by omega)
            have hvx : ∀ W : World, Below w2.heap.size w2 W → ∃ ad, A2 = some ad ∧ W.cell? (ad.add vm) = some (.string v[vm]) := fun W h => c_str (Kd.C_below HV.out h) vm hvlt
            obtain ⟨ad2, e2, _⟩ := hvx _ (Below.refl _ _)
            subst e2
            have hvy : ∀ W : World, Below w2.heap.size w2 W → W.cell? (ad2.add vm) = some (.string v[vm]) := fun W h => by
              obtain ⟨ad', e', h'⟩ := hvx W h
              injection e' with e'
              rw [e']
              exact h'
            generalize v[vm] = t at hI hvy
            have HVY := Aside0.mk hvy
            generalize hbe : (x.f0.toList == t.toList) = be
            have hbe2 : be = decide (x.f0.data.toList = t.data.toList) := by
              rw [← hbe, Lib.toList_data, Lib.toList_data, Bool.eq_iff_iff, beq_iff_eq, decide_eq_true_eq]
            clear hbi hfx hvx hge hvy hvm
            cases be
            · rw [if_neg (of_decide_eq_false hbe2.symm)] at hI
              have HI := Aside0.mk hI
              clear hI hbe2
              go_wp2_with (first
                | ((with_reducible refine gate_dst (N := 52) rfl ?_); refine seg_load rfl 35 (.tmp 51) rfl HX.out (A35 x) rfl rfl hu35 rfl info35s ?_)
                | ((with_reducible refine gate_store (t := 35) (p := 15) rfl ?_); refine box_store rfl rfl 35 (.tmp 15) (.tmp 52) rfl held (A35 x) rfl rfl info35s (by rfl) (by rfl) ?_
                   intro w7 hx7 hg7
                   have p7 := prev_row hg7
                   have h7 : Holds w7 wr.heap.size (.cells (A35 x) 35) := ⟨hx7⟩
                   have a7 : Apart w2.heap.size (.row wr.heap.size) := apart_ne (by omega)
                   have o7 : OwnB w2.heap.size (.row wr.heap.size) := own_row sb
                   have HS7 := Aside0.mk (seenN_prev (W' := w7) (seenN_prev (W' := wr.alloc (.cells Z35 35)) HS.out))
                   have hv7 := HVY.out w7 ((inferInstance : Bel w2.heap.size w2 w7).out (Nat.le_refl _))
                   clear hx7 hg7)
                | ((with_reducible refine gate_dst (N := 57) rfl ?_); refine seen_ask rfl (.tmp 54) (.tmp 56) rfl hu33 hu9 hu4 zero4 (SeenN.seen HS7.out) x.f0 HSZ.out rfl rfl ?_; rw [HBI.out]))
              go_quiet (fail)
              go_wp2_with fail
              go_roundw
              case rel => exact ⟨i + 1, m, y, by omega, by go_num, rfl, rfl, by omega, by omega, hy0, hy1, HI, ⟨seenN_prev HS7.out⟩, ⟨(inferInstance : Bel w2.heap.size w2 _).out (Nat.le_refl _)⟩⟩
              case measure => simp [intOf]; omega
            · rw [if_pos (of_decide_eq_true hbe2.symm)] at hI
              have HI := Aside0.mk hI
              clear hI hbe2
              go_wp2_with (first
                | ((with_reducible refine gate_dst (N := 52) rfl ?_); refine seg_load rfl 35 (.tmp 51) rfl HX.out (A35 x) rfl rfl hu35 rfl info35s ?_)
                | ((with_reducible refine gate_store (t := 35) (p := 15) rfl ?_); refine box_store rfl rfl 35 (.tmp 15) (.tmp 52) rfl held (A35 x) rfl rfl info35s (by rfl) (by rfl) ?_
                   intro w7 hx7 hg7
                   have p7 := prev_row hg7
                   have h7 : Holds w7 wr.heap.size (.cells (A35 x) 35) := ⟨hx7⟩
                   have a7 : Apart w2.heap.size (.row wr.heap.size) := apart_ne (by omega)
                   have o7 : OwnB w2.heap.size (.row wr.heap.size) := own_row sb
                   have HS7 := Aside0.mk (seenN_prev (W' := w7) (seenN_prev (W' := wr.alloc (.cells Z35 35)) HS.out))
                   have hv7 := HVY.out w7 ((inferInstance : Bel w2.heap.size w2 w7).out (Nat.le_refl _))
                   clear hx7 hg7)
                | ((with_reducible refine gate_dst (N := 57) rfl ?_); refine seen_ask rfl (.tmp 54) (.tmp 56) rfl hu33 hu9 hu4 zero4 (SeenN.seen HS7.out) x.f0 HSZ.out rfl rfl ?_; rw [HBI.out]))
              go_quiet (fail)
              go_wp2_with fail
              go_roundw
              case rel => exact ⟨i + 1, m, x.f1, by omega, by go_num, rfl, rfl, by omega, by omega, k1, k2, HI, ⟨seenN_prev HS7.out⟩, ⟨(inferInstance : Bel w2.heap.size w2 _).out (Nat.le_refl _)⟩⟩
              case measure => simp [intOf]; omega
        · have hI := HI.out
          rw [List.drop_of_length_le (by omega)] at hI
          simp only [roomGo, Prod.mk.injEq] at hI
          obtain ⟨rfl, rfl⟩ := hI
          clear HI
          rename World => w4
          have HSG := HS
          have HBG := HB
          clear HS HB sb2
          have hle := HLE.out
          have e1 : decide (q - n < m) = false := decide_eq_false (by omega)
          rcases Nat.eq_zero_or_pos v.length with hv0 | hv0
          · have e2 : decide (0 < v.length) = false := decide_eq_false (by omega)
            clear hv0
            go_wp2_with fail
            clear e1 e2 HROOM HLA HLE HFIX HOK HNEW hj hlt
            go_loopw [109] (fun i wr => ∃ j : Nat, j ≤ l.length ∧ i = .int .i64 (j : Int) ∧ Aside0 (SeenN Tryd.prog 9 4 wr w2.heap.size v.length v.reverse) ∧ Aside0 (Below w2.heap.size w2 wr)) (fun i _ => l.length - (intOf i).toNat)
            case atStart => exact ⟨0, Nat.zero_le _, rfl, HSG, HBG⟩
            case round =>
              clear HSG HBG pr sb
              rename World => wo
              obtain ⟨j, hj, rfl, HS, HB⟩ := hrel
              have pr := prev_above HB.out
              have sb := HB.out.size
              have sb2 := seenN_lt HS.out
              by_cases hlt : j < l.length
              · obtain ⟨ad, e, x0⟩ := C35_at HL.out j hlt
                subst e
                have hsz := HLS.out _ (List.getElem_mem hlt)
                have hor := HORD.out _ (List.getElem_mem hlt)
                generalize l[j] = x at x0 hsz hor
                have HX := Aside0.mk (At_below x0 HB.out)
                have HSZ : Aside0 (x.f0.size ≤ maxLen) := ⟨Nat.le_trans hsz (by decide)⟩
                have HOR := Aside0.mk hor
                clear x0 hor
                obtain ⟨bx, hbx⟩ : ∃ b, isIn x.f0 v.reverse = b := ⟨_, rfl⟩
                have HBX := Aside0.mk hbx
                clear hbx
                go_wp2_with (first
                  | ((with_reducible refine gate_dst (N := 112) rfl ?_); refine seg_load rfl 35 (.tmp 111) rfl HX.out (A35 x) rfl rfl hu35 rfl info35s ?_)
                  | ((with_reducible refine gate_store (t := 35) (p := 17) rfl ?_); refine box_store rfl rfl 35 (.tmp 17) (.tmp 112) rfl held (A35 x) rfl rfl info35s (by rfl) (by rfl) ?_
                     intro w7 hx7 hg7
                     have p7 := prev_row hg7
                     have h7 : Holds w7 wo.heap.size (.cells (A35 x) 35) := ⟨hx7⟩
                     have a7 : Apart w2.heap.size (.row wo.heap.size) := apart_ne (by omega)
                     have o7 : OwnB w2.heap.size (.row wo.heap.size) := own_row sb
                     have HS7 := Aside0.mk (seenN_prev (W' := w7) (seenN_prev (W' := wo.alloc (.cells Z35 35)) HS.out))
                     have HB7 := Aside0.mk ((inferInstance : Bel w2.heap.size w2 w7).out (Nat.le_refl _))
                     have s7 : wo.heap.size < w7.heap.size := held_lt
                     clear hx7 hg7))
                go_loopw [115] (fun i wr => ∃ i2 : Nat, i2 ≤ l.length ∧ i = .int .i64 (i2 : Int) ∧ Aside0 (SeenN Tryd.prog 9 4 wr w2.heap.size v.length v.reverse) ∧ Aside0 (Below w7.heap.size w7 wr)) (fun i _ => l.length - (intOf i).toNat)
                case atStart => exact ⟨0, Nat.zero_le _, rfl, HS7, ⟨Below.refl _ _⟩⟩
                case round =>
                  clear HS7
                  obtain ⟨i, hi, rfl, HS, HBI⟩ := hrel
                  have pri := prev_above HBI.out
                  have sbi := HBI.out.size
                  have ai : Apart wo.heap.size (.above w7.heap.size) := apart_lt s7
                  have oi : OwnB w2.heap.size (.above w7.heap.size) := own_above HB7.out.size
                  by_cases hlti : i < l.length
                  · obtain ⟨ad2, e2, y0⟩ := C35_at HL.out i hlti
                    injection e2 with e2
                    subst e2
                    have hsy := HLS.out _ (List.getElem_mem hlti)
                    have hor := HOR.out _ (List.getElem_mem hlti) 
                    generalize l[i] = y at y0 hsy hor
                    have HY := Aside0.mk (At_below (At_below y0 HB7.out) HBI.out)
                    have HSY : Aside0 (y.f0.size ≤ maxLen) := ⟨Nat.le_trans hsy (by decide)⟩
                    have hcp := fun W => cmp_bel W x.f0 y.f0 hsz hsy
                    have HCP := Aside0.mk hcp
                    clear y0 hcp
                    obtain ⟨bj, hbj⟩ : ∃ b, isIn y.f0 v.reverse = b := ⟨_, rfl⟩
                    have HBY := Aside0.mk hbj
                    cases bx
                    · clear hor hbj
                      go_wp2_with (first
                      | ((with_reducible refine gate_dst (N := 118) rfl ?_); refine seg_load rfl 35 (.tmp 117) rfl HY.out (A35 y) rfl rfl hu35 rfl info35s ?_)
                      | ((with_reducible refine gate_store (t := 35) (p := 19) rfl ?_); refine box_store rfl rfl 35 (.tmp 19) (.tmp 118) rfl held (A35 y) rfl rfl info35s (by rfl) (by rfl) ?_
                         intro w8 hx8 hg8
                         have p8 := prev_row hg8
                         have h8 : Holds w8 wr.heap.size (.cells (A35 y) 35) := ⟨hx8⟩
                         have a8 : Apart w2.heap.size (.row wr.heap.size) := apart_ne (by omega)
                         have a8' : Apart wo.heap.size (.row wr.heap.size) := apart_ne (by omega)
                         have o8 : OwnB w7.heap.size (.row wr.heap.size) := own_row sbi
                         have HS8 := Aside0.mk (seenN_prev (W' := w8) (seenN_prev (W' := wr.alloc (.cells Z35 35)) HS.out))
                         clear hx8 hg8)
                      | ((with_reducible refine gate_dst (N := 122) rfl ?_); refine seen_ask rfl (.tmp 119) (.tmp 121) rfl hu33 hu9 hu4 zero4 (SeenN.seen HS8.out) x.f0 HSZ.out rfl rfl ?_; rw [HBX.out])
                      | ((with_reducible refine gate_dst (N := 127) rfl ?_); refine gate_guard (by rfl) ?_; dsimp only; refine seen_ask rfl (.tmp 124) (.tmp 126) rfl hu33 hu9 hu4 zero4 (SeenN.seen HS8.out) y.f0 HSY.out rfl rfl ?_; rw [HBY.out]))
                      go_roundw
                      case rel => exact ⟨i + 1, by omega, by go_num, HS8, ⟨(inferInstance : Bel w7.heap.size w7 _).out (Nat.le_refl _)⟩⟩
                      case measure => simp [intOf]; omega
                    · cases bj
                      · have hor := hor HBX.out hbj
                        clear hbj
                        cases hf3 : y.f3
                        · cases hf4 : y.f4
                          · obtain ⟨o1, o2⟩ := hor hf3 hf4
                            have d1 : decide (y.f2 < x.f2) = false := decide_eq_false (by omega)
                            by_cases hxy : x.f2 = y.f2
                            · have d2 : (x.f2 == y.f2) = true := beq_iff_eq.mpr hxy
                              have d3 := o2 hxy
                              generalize pcmp x.f0 y.f0 = pc at d3 HCP
                              have d4 : decide (0 < pc) = false := decide_eq_false (by omega)
                              clear hor o1 o2 hxy
                              go_wp2_with (first
                      | ((with_reducible refine gate_dst (N := 118) rfl ?_); refine seg_load rfl 35 (.tmp 117) rfl HY.out (A35 y) rfl rfl hu35 rfl info35s ?_)
                      | ((with_reducible refine gate_store (t := 35) (p := 19) rfl ?_); refine box_store rfl rfl 35 (.tmp 19) (.tmp 118) rfl held (A35 y) rfl rfl info35s (by rfl) (by rfl) ?_
                         intro w8 hx8 hg8
                         have p8 := prev_row hg8
                         have h8 : Holds w8 wr.heap.size (.cells (A35 y) 35) := ⟨hx8⟩
                         have a8 : Apart w2.heap.size (.row wr.heap.size) := apart_ne (by omega)
                         have a8' : Apart wo.heap.size (.row wr.heap.size) := apart_ne (by omega)
                         have o8 : OwnB w7.heap.size (.row wr.heap.size) := own_row sbi
                         have HS8 := Aside0.mk (seenN_prev (W' := w8) (seenN_prev (W' := wr.alloc (.cells Z35 35)) HS.out))
                         clear hx8 hg8)
                      | ((with_reducible refine gate_dst (N := 122) rfl ?_); refine seen_ask rfl (.tmp 119) (.tmp 121) rfl hu33 hu9 hu4 zero4 (SeenN.seen HS8.out) x.f0 HSZ.out rfl rfl ?_; rw [HBX.out])
                      | ((with_reducible refine gate_dst (N := 127) rfl ?_); refine gate_guard (by rfl) ?_; dsimp only; refine seen_ask rfl (.tmp 124) (.tmp 126) rfl hu33 hu9 hu4 zero4 (SeenN.seen HS8.out) y.f0 HSY.out rfl rfl ?_; rw [HBY.out]))
                              refine (HCP.out _).mono ?_
                              rintro e w9 ⟨rfl, hb⟩
                              have p9 := prev_call hb
                              clear hb
                              go_wp2_with fail
                              go_roundw
                              case rel => exact ⟨i + 1, by omega, by go_num, ⟨seenN_prev HS8.out⟩, ⟨(inferInstance : Bel w7.heap.size w7 _).out (Nat.le_refl _)⟩⟩
                              case measure => simp [intOf]; omega
                            · have d2 : (x.f2 == y.f2) = false := beq_eq_false_iff_ne.mpr hxy
                              clear hor o1 o2 hxy
                              go_wp2_with (first
                      | ((with_reducible refine gate_dst (N := 118) rfl ?_); refine seg_load rfl 35 (.tmp 117) rfl HY.out (A35 y) rfl rfl hu35 rfl info35s ?_)
                      | ((with_reducible refine gate_store (t := 35) (p := 19) rfl ?_); refine box_store rfl rfl 35 (.tmp 19) (.tmp 118) rfl held (A35 y) rfl rfl info35s (by rfl) (by rfl) ?_
                         intro w8 hx8 hg8
                         have p8 := prev_row hg8
                         have h8 : Holds w8 wr.heap.size (.cells (A35 y) 35) := ⟨hx8⟩
                         have a8 : Apart w2.heap.size (.row wr.heap.size) := apart_ne (by omega)
                         have a8' : Apart wo.heap.size (.row wr.heap.size) := apart_ne (by omega)
                         have o8 : OwnB w7.heap.size (.row wr.heap.size) := own_row sbi
                         have HS8 := Aside0.mk (seenN_prev (W' := w8) (seenN_prev (W' := wr.alloc (.cells Z35 35)) HS.out))
                         clear hx8 hg8)
                      | ((with_reducible refine gate_dst (N := 122) rfl ?_); refine seen_ask rfl (.tmp 119) (.tmp 121) rfl hu33 hu9 hu4 zero4 (SeenN.seen HS8.out) x.f0 HSZ.out rfl rfl ?_; rw [HBX.out])
                      | ((with_reducible refine gate_dst (N := 127) rfl ?_); refine gate_guard (by rfl) ?_; dsimp only; refine seen_ask rfl (.tmp 124) (.tmp 126) rfl hu33 hu9 hu4 zero4 (SeenN.seen HS8.out) y.f0 HSY.out rfl rfl ?_; rw [HBY.out]))
                              go_roundw
                              case rel => exact ⟨i + 1, by omega, by go_num, HS8, ⟨(inferInstance : Bel w7.heap.size w7 _).out (Nat.le_refl _)⟩⟩
                              case measure => simp [intOf]; omega
                          · clear hor
                            go_wp2_with (first
                      | ((with_reducible refine gate_dst (N := 118) rfl ?_); refine seg_load rfl 35 (.tmp 117) rfl HY.out (A35 y) rfl rfl hu35 rfl info35s ?_)
                      | ((with_reducible refine gate_store (t := 35) (p := 19) rfl ?_); refine box_store rfl rfl 35 (.tmp 19) (.tmp 118) rfl held (A35 y) rfl rfl info35s (by rfl) (by rfl) ?_
                         intro w8 hx8 hg8
                         have p8 := prev_row hg8
                         have h8 : Holds w8 wr.heap.size (.cells (A35 y) 35) := ⟨hx8⟩
                         have a8 : Apart w2.heap.size (.row wr.heap.size) := apart_ne (by omega)
                         have a8' : Apart wo.heap.size (.row wr.heap.size) := apart_ne (by omega)
                         have o8 : OwnB w7.heap.size (.row wr.heap.size) := own_row sbi
                         have HS8 := Aside0.mk (seenN_prev (W' := w8) (seenN_prev (W' := wr.alloc (.cells Z35 35)) HS.out))
                         clear hx8 hg8)
                      | ((with_reducible refine gate_dst (N := 122) rfl ?_); refine seen_ask rfl (.tmp 119) (.tmp 121) rfl hu33 hu9 hu4 zero4 (SeenN.seen HS8.out) x.f0 HSZ.out rfl rfl ?_; rw [HBX.out])
                      | ((with_reducible refine gate_dst (N := 127) rfl ?_); refine gate_guard (by rfl) ?_; dsimp only; refine seen_ask rfl (.tmp 124) (.tmp 126) rfl hu33 hu9 hu4 zero4 (SeenN.seen HS8.out) y.f0 HSY.out rfl rfl ?_; rw [HBY.out]))
                            go_roundw
                            case rel => exact ⟨i + 1, by omega, by go_num, HS8, ⟨(inferInstance : Bel w7.heap.size w7 _).out (Nat.le_refl _)⟩⟩
                            case measure => simp [intOf]; omega
                        · clear hor
                          go_wp2_with (first
                      | ((with_reducible refine gate_dst (N := 118) rfl ?_); refine seg_load rfl 35 (.tmp 117) rfl HY.out (A35 y) rfl rfl hu35 rfl info35s ?_)
                      | ((with_reducible refine gate_store (t := 35) (p := 19) rfl ?_); refine box_store rfl rfl 35 (.tmp 19) (.tmp 118) rfl held (A35 y) rfl rfl info35s (by rfl) (by rfl) ?_
                         intro w8 hx8 hg8
                         have p8 := prev_row hg8
                         have h8 : Holds w8 wr.heap.size (.cells (A35 y) 35) := ⟨hx8⟩
                         have a8 : Apart w2.heap.size (.row wr.heap.size) := apart_ne (by omega)
                         have a8' : Apart wo.heap.size (.row wr.heap.size) := apart_ne (by omega)
                         have o8 : OwnB w7.heap.size (.row wr.heap.size) := own_row sbi
                         have HS8 := Aside0.mk (seenN_prev (W' := w8) (seenN_prev (W' := wr.alloc (.cells Z35 35)) HS.out))
                         clear hx8 hg8)
                      | ((with_reducible refine gate_dst (N := 122) rfl ?_); refine seen_ask rfl (.tmp 119) (.tmp 121) rfl hu33 hu9 hu4 zero4 (SeenN.seen HS8.out) x.f0 HSZ.out rfl rfl ?_; rw [HBX.out])
                      | ((with_reducible refine gate_dst (N := 127) rfl ?_); refine gate_guard (by rfl) ?_; dsimp only; refine seen_ask rfl (.tmp 124) (.tmp 126) rfl hu33 hu9 hu4 zero4 (SeenN.seen HS8.out) y.f0 HSY.out rfl rfl ?_; rw [HBY.out]))
                          go_roundw
                          case rel => exact ⟨i + 1, by omega, by go_num, HS8, ⟨(inferInstance : Bel w7.heap.size w7 _).out (Nat.le_refl _)⟩⟩
                          case measure => simp [intOf]; omega
                      · clear hor hbj
                        go_wp2_with (first
                      | ((with_reducible refine gate_dst (N := 118) rfl ?_); refine seg_load rfl 35 (.tmp 117) rfl HY.out (A35 y) rfl rfl hu35 rfl info35s ?_)
                      | ((with_reducible refine gate_store (t := 35) (p := 19) rfl ?_); refine box_store rfl rfl 35 (.tmp 19) (.tmp 118) rfl held (A35 y) rfl rfl info35s (by rfl) (by rfl) ?_
                         intro w8 hx8 hg8
                         have p8 := prev_row hg8
                         have h8 : Holds w8 wr.heap.size (.cells (A35 y) 35) := ⟨hx8⟩
                         have a8 : Apart w2.heap.size (.row wr.heap.size) := apart_ne (by omega)
                         have a8' : Apart wo.heap.size (.row wr.heap.size) := apart_ne (by omega)
                         have o8 : OwnB w7.heap.size (.row wr.heap.size) := own_row sbi
                         have HS8 := Aside0.mk (seenN_prev (W' := w8) (seenN_prev (W' := wr.alloc (.cells Z35 35)) HS.out))
                         clear hx8 hg8)
                      | ((with_reducible refine gate_dst (N := 122) rfl ?_); refine seen_ask rfl (.tmp 119) (.tmp 121) rfl hu33 hu9 hu4 zero4 (SeenN.seen HS8.out) x.f0 HSZ.out rfl rfl ?_; rw [HBX.out])
                      | ((with_reducible refine gate_dst (N := 127) rfl ?_); refine gate_guard (by rfl) ?_; dsimp only; refine seen_ask rfl (.tmp 124) (.tmp 126) rfl hu33 hu9 hu4 zero4 (SeenN.seen HS8.out) y.f0 HSY.out rfl rfl ?_; rw [HBY.out]))
                        go_roundw
                        case rel => exact ⟨i + 1, by omega, by go_num, HS8, ⟨(inferInstance : Bel w7.heap.size w7 _).out (Nat.le_refl _)⟩⟩
                        case measure => simp [intOf]; omega
                  · clear HOR HBX
                    go_wp2_with fail
                    go_roundw
                    case rel => exact ⟨j + 1, by omega, by go_num, HS, ⟨(inferInstance : Bel w2.heap.size w2 _).out (Nat.le_refl _)⟩⟩
                    case measure => simp [intOf]; omega
              · clear HORD
                go_wp2_with (first
                  | ((with_reducible refine gate_dst (N := 165) rfl ?_); refine seenN_len rfl (.tmp 164) rfl hu33 HS.out rfl ?_; simp only [List.length_reverse]))
                refine (works_c _).mono ?_
                rintro e w9 ⟨rfl, hb⟩
                have p9 := prev_call hb
                clear hb
                go_wp2_with fail
                go_ret
                exact ⟨rfl, bel _ _⟩
          · have hlx := HLA.out (fun e => by rw [e] at hv0; exact absurd hv0 (Nat.lt_irrefl 0))
            have e2 : decide (0 < v.length) = true := decide_eq_true hv0
            have e3 : decide (m + y ≤ q - n) = false := decide_eq_false (by omega)
            go_wp2_with fail
            clear e1 e2 HROOM HLA HLE HFIX HOK HNEW hj hlt
            go_loopw [109] (fun i wr => ∃ j : Nat, j ≤ l.length ∧ i = .int .i64 (j : Int) ∧ Aside0 (SeenN Tryd.prog 9 4 wr w2.heap.size v.length v.reverse) ∧ Aside0 (Below w2.heap.size w2 wr)) (fun i _ => l.length - (intOf i).toNat)
            case atStart => exact ⟨0, Nat.zero_le _, rfl, HSG, HBG⟩
            case round =>
              clear HSG HBG pr sb
              rename World => wo
              obtain ⟨j, hj, rfl, HS, HB⟩ := hrel
              have pr := prev_above HB.out
              have sb := HB.out.size
              have sb2 := seenN_lt HS.out
              by_cases hlt : j < l.length
              · obtain ⟨ad, e, x0⟩ := C35_at HL.out j hlt
                subst e
                have hsz := HLS.out _ (List.getElem_mem hlt)
                have hor := HORD.out _ (List.getElem_mem hlt)
                generalize l[j] = x at x0 hsz hor
                have HX := Aside0.mk (At_below x0 HB.out)
                have HSZ : Aside0 (x.f0.size ≤ maxLen) := ⟨Nat.le_trans hsz (by decide)⟩
                have HOR := Aside0.mk hor
                clear x0 hor
                obtain ⟨bx, hbx⟩ : ∃ b, isIn x.f0 v.reverse = b := ⟨_, rfl⟩
                have HBX := Aside0.mk hbx
                clear hbx
                go_wp2_with (first
                  | ((with_reducible refine gate_dst (N := 112) rfl ?_); refine seg_load rfl 35 (.tmp 111) rfl HX.out (A35 x) rfl rfl hu35 rfl info35s ?_)
                  | ((with_reducible refine gate_store (t := 35) (p := 17) rfl ?_); refine box_store rfl rfl 35 (.tmp 17) (.tmp 112) rfl held (A35 x) rfl rfl info35s (by rfl) (by rfl) ?_
                     intro w7 hx7 hg7
                     have p7 := prev_row hg7
                     have h7 : Holds w7 wo.heap.size (.cells (A35 x) 35) := ⟨hx7⟩
                     have a7 : Apart w2.heap.size (.row wo.heap.size) := apart_ne (by omega)
                     have o7 : OwnB w2.heap.size (.row wo.heap.size) := own_row sb
                     have HS7 := Aside0.mk (seenN_prev (W' := w7) (seenN_prev (W' := wo.alloc (.cells Z35 35)) HS.out))
                     have HB7 := Aside0.mk ((inferInstance : Bel w2.heap.size w2 w7).out (Nat.le_refl _))
                     have s7 : wo.heap.size < w7.heap.size := held_lt
                     clear hx7 hg7))
                go_loopw [115] (fun i wr => ∃ i2 : Nat, i2 ≤ l.length ∧ i = .int .i64 (i2 : Int) ∧ Aside0 (SeenN Tryd.prog 9 4 wr w2.heap.size v.length v.reverse) ∧ Aside0 (Below w7.heap.size w7 wr)) (fun i _ => l.length - (intOf i).toNat)
                case atStart => exact ⟨0, Nat.zero_le _, rfl, HS7, ⟨Below.refl _ _⟩⟩
                case round =>
                  clear HS7
                  obtain ⟨i, hi, rfl, HS, HBI⟩ := hrel
                  have pri := prev_above HBI.out
                  have sbi := HBI.out.size
                  have ai : Apart wo.heap.size (.above w7.heap.size) := apart_lt s7
                  have oi : OwnB w2.heap.size (.above w7.heap.size) := own_above HB7.out.size
                  by_cases hlti : i < l.length
                  · obtain ⟨ad2, e2, y0⟩ := C35_at HL.out i hlti
                    injection e2 with e2
                    subst e2
                    have hsy := HLS.out _ (List.getElem_mem hlti)
                    have hor := HOR.out _ (List.getElem_mem hlti) 
                    generalize l[i] = y at y0 hsy hor
                    have HY := Aside0.mk (At_below (At_below y0 HB7.out) HBI.out)
                    have HSY : Aside0 (y.f0.size ≤ maxLen) := ⟨Nat.le_trans hsy (by decide)⟩
                    have hcp := fun W => cmp_bel W x.f0 y.f0 hsz hsy
                    have HCP := Aside0.mk hcp
                    clear y0 hcp
                    obtain ⟨bj, hbj⟩ : ∃ b, isIn y.f0 v.reverse = b := ⟨_, rfl⟩
                    have HBY := Aside0.mk hbj
                    cases bx
                    · clear hor hbj
                      go_wp2_with (first
                      | ((with_reducible refine gate_dst (N := 118) rfl ?_); refine seg_load rfl 35 (.tmp 117) rfl HY.out (A35 y) rfl rfl hu35 rfl info35s ?_)
                      | ((with_reducible refine gate_store (t := 35) (p := 19) rfl ?_); refine box_store rfl rfl 35 (.tmp 19) (.tmp 118) rfl held (A35 y) rfl rfl info35s (by rfl) (by rfl) ?_
                         intro w8 hx8 hg8
                         have p8 := prev_row hg8
                         have h8 : Holds w8 wr.heap.size (.cells (A35 y) 35) := ⟨hx8⟩
                         have a8 : Apart w2.heap.size (.row wr.heap.size) := apart_ne (by omega)
                         have a8' : Apart wo.heap.size (.row wr.heap.size) := apart_ne (by omega)
                         have o8 : OwnB w7.heap.size (.row wr.heap.size) := own_row sbi
                         have HS8 := Aside0.mk (seenN_prev (W' := w8) (seenN_prev (W' := wr.alloc (.cells Z35 35)) HS.out))
                         clear hx8 hg8)
                      | ((with_reducible refine gate_dst (N := 122) rfl ?_); refine seen_ask rfl (.tmp 119) (.tmp 121) rfl hu33 hu9 hu4 zero4 (SeenN.seen HS8.out) x.f0 HSZ.out rfl rfl ?_; rw [HBX.out])
                      | ((with_reducible refine gate_dst (N := 127) rfl ?_); refine gate_guard (by rfl) ?_; dsimp only; refine seen_ask rfl (.tmp 124) (.tmp 126) rfl hu33 hu9 hu4 zero4 (SeenN.seen HS8.out) y.f0 HSY.out rfl rfl ?_; rw [HBY.out]))
                      go_roundw
                      case rel => exact ⟨i + 1, by omega, by go_num, HS8, ⟨(inferInstance : Bel w7.heap.size w7 _).out (Nat.le_refl _)⟩⟩
                      case measure => simp [intOf]; omega
                    · cases bj
                      · have hor := hor HBX.out hbj
                        clear hbj
                        cases hf3 : y.f3
                        · cases hf4 : y.f4
                          · obtain ⟨o1, o2⟩ := hor hf3 hf4
                            have d1 : decide (y.f2 < x.f2) = false := decide_eq_false (by omega)
                            by_cases hxy : x.f2 = y.f2
                            · have d2 : (x.f2 == y.f2) = true := beq_iff_eq.mpr hxy
                              have d3 := o2 hxy
                              generalize pcmp x.f0 y.f0 = pc at d3 HCP
                              have d4 : decide (0 < pc) = false := decide_eq_false (by omega)
                              clear hor o1 o2 hxy
                              go_wp2_with (first
                      | ((with_reducible refine gate_dst (N := 118) rfl ?_); refine seg_load rfl 35 (.tmp 117) rfl HY.out (A35 y) rfl rfl hu35 rfl info35s ?_)
                      | ((with_reducible refine gate_store (t := 35) (p := 19) rfl ?_); refine box_store rfl rfl 35 (.tmp 19) (.tmp 118) rfl held (A35 y) rfl rfl info35s (by rfl) (by rfl) ?_
                         intro w8 hx8 hg8
                         have p8 := prev_row hg8
                         have h8 : Holds w8 wr.heap.size (.cells (A35 y) 35) := ⟨hx8⟩
                         have a8 : Apart w2.heap.size (.row wr.heap.size) := apart_ne (by omega)
                         have a8' : Apart wo.heap.size (.row wr.heap.size) := apart_ne (by omega)
                         have o8 : OwnB w7.heap.size (.row wr.heap.size) := own_row sbi
                         have HS8 := Aside0.mk (seenN_prev (W' := w8) (seenN_prev (W' := wr.alloc (.cells Z35 35)) HS.out))
                         clear hx8 hg8)
                      | ((with_reducible refine gate_dst (N := 122) rfl ?_); refine seen_ask rfl (.tmp 119) (.tmp 121) rfl hu33 hu9 hu4 zero4 (SeenN.seen HS8.out) x.f0 HSZ.out rfl rfl ?_; rw [HBX.out])
                      | ((with_reducible refine gate_dst (N := 127) rfl ?_); refine gate_guard (by rfl) ?_; dsimp only; refine seen_ask rfl (.tmp 124) (.tmp 126) rfl hu33 hu9 hu4 zero4 (SeenN.seen HS8.out) y.f0 HSY.out rfl rfl ?_; rw [HBY.out]))
                              refine (HCP.out _).mono ?_
                              rintro e w9 ⟨rfl, hb⟩
                              have p9 := prev_call hb
                              clear hb
                              go_wp2_with fail
                              go_roundw
                              case rel => exact ⟨i + 1, by omega, by go_num, ⟨seenN_prev HS8.out⟩, ⟨(inferInstance : Bel w7.heap.size w7 _).out (Nat.le_refl _)⟩⟩
                              case measure => simp [intOf]; omega
                            · have d2 : (x.f2 == y.f2) = false := beq_eq_false_iff_ne.mpr hxy
                              clear hor o1 o2 hxy
                              go_wp2_with (first
                      | ((with_reducible refine gate_dst (N := 118) rfl ?_); refine seg_load rfl 35 (.tmp 117) rfl HY.out (A35 y) rfl rfl hu35 rfl info35s ?_)
                      | ((with_reducible refine gate_store (t := 35) (p := 19) rfl ?_); refine box_store rfl rfl 35 (.tmp 19) (.tmp 118) rfl held (A35 y) rfl rfl info35s (by rfl) (by rfl) ?_
                         intro w8 hx8 hg8
                         have p8 := prev_row hg8
                         have h8 : Holds w8 wr.heap.size (.cells (A35 y) 35) := ⟨hx8⟩
                         have a8 : Apart w2.heap.size (.row wr.heap.size) := apart_ne (by omega)
                         have a8' : Apart wo.heap.size (.row wr.heap.size) := apart_ne (by omega)
                         have o8 : OwnB w7.heap.size (.row wr.heap.size) := own_row sbi
                         have HS8 := Aside0.mk (seenN_prev (W' := w8) (seenN_prev (W' := wr.alloc (.cells Z35 35)) HS.out))
                         clear hx8 hg8)
                      | ((with_reducible refine gate_dst (N := 122) rfl ?_); refine seen_ask rfl (.tmp 119) (.tmp 121) rfl hu33 hu9 hu4 zero4 (SeenN.seen HS8.out) x.f0 HSZ.out rfl rfl ?_; rw [HBX.out])
                      | ((with_reducible refine gate_dst (N := 127) rfl ?_); refine gate_guard (by rfl) ?_; dsimp only; refine seen_ask rfl (.tmp 124) (.tmp 126) rfl hu33 hu9 hu4 zero4 (SeenN.seen HS8.out) y.f0 HSY.out rfl rfl ?_; rw [HBY.out]))
                              go_roundw
                              case rel => exact ⟨i + 1, by omega, by go_num, HS8, ⟨(inferInstance : Bel w7.heap.size w7 _).out (Nat.le_refl _)⟩⟩
                              case measure => simp [intOf]; omega
                          · clear hor
                            go_wp2_with (first
                      | ((with_reducible refine gate_dst (N := 118) rfl ?_); refine seg_load rfl 35 (.tmp 117) rfl HY.out (A35 y) rfl rfl hu35 rfl info35s ?_)
                      | ((with_reducible refine gate_store (t := 35) (p := 19) rfl ?_); refine box_store rfl rfl 35 (.tmp 19) (.tmp 118) rfl held (A35 y) rfl rfl info35s (by rfl) (by rfl) ?_
                         intro w8 hx8 hg8
                         have p8 := prev_row hg8
                         have h8 : Holds w8 wr.heap.size (.cells (A35 y) 35) := ⟨hx8⟩
                         have a8 : Apart w2.heap.size (.row wr.heap.size) := apart_ne (by omega)
                         have a8' : Apart wo.heap.size (.row wr.heap.size) := apart_ne (by omega)
                         have o8 : OwnB w7.heap.size (.row wr.heap.size) := own_row sbi
                         have HS8 := Aside0.mk (seenN_prev (W' := w8) (seenN_prev (W' := wr.alloc (.cells Z35 35)) HS.out))
                         clear hx8 hg8)
                      | ((with_reducible refine gate_dst (N := 122) rfl ?_); refine seen_ask rfl (.tmp 119) (.tmp 121) rfl hu33 hu9 hu4 zero4 (SeenN.seen HS8.out) x.f0 HSZ.out rfl rfl ?_; rw [HBX.out])
                      | ((with_reducible refine gate_dst (N := 127) rfl ?_); refine gate_guard (by rfl) ?_; dsimp only; refine seen_ask rfl (.tmp 124) (.tmp 126) rfl hu33 hu9 hu4 zero4 (SeenN.seen HS8.out) y.f0 HSY.out rfl rfl ?_; rw [HBY.out]))
                            go_roundw
                            case rel => exact ⟨i + 1, by omega, by go_num, HS8, ⟨(inferInstance : Bel w7.heap.size w7 _).out (Nat.le_refl _)⟩⟩
                            case measure => simp [intOf]; omega
                        · clear hor
                          go_wp2_with (first
                      | ((with_reducible refine gate_dst (N := 118) rfl ?_); refine seg_load rfl 35 (.tmp 117) rfl HY.out (A35 y) rfl rfl hu35 rfl info35s ?_)
                      | ((with_reducible refine gate_store (t := 35) (p := 19) rfl ?_); refine box_store rfl rfl 35 (.tmp 19) (.tmp 118) rfl held (A35 y) rfl rfl info35s (by rfl) (by rfl) ?_
                         intro w8 hx8 hg8
                         have p8 := prev_row hg8
                         have h8 : Holds w8 wr.heap.size (.cells (A35 y) 35) := ⟨hx8⟩
                         have a8 : Apart w2.heap.size (.row wr.heap.size) := apart_ne (by omega)
                         have a8' : Apart wo.heap.size (.row wr.heap.size) := apart_ne (by omega)
                         have o8 : OwnB w7.heap.size (.row wr.heap.size) := own_row sbi
                         have HS8 := Aside0.mk (seenN_prev (W' := w8) (seenN_prev (W' := wr.alloc (.cells Z35 35)) HS.out))
                         clear hx8 hg8)
                      | ((with_reducible refine gate_dst (N := 122) rfl ?_); refine seen_ask rfl (.tmp 119) (.tmp 121) rfl hu33 hu9 hu4 zero4 (SeenN.seen HS8.out) x.f0 HSZ.out rfl rfl ?_; rw [HBX.out])
                      | ((with_reducible refine gate_dst (N := 127) rfl ?_); refine gate_guard (by rfl) ?_; dsimp only; refine seen_ask rfl (.tmp 124) (.tmp 126) rfl hu33 hu9 hu4 zero4 (SeenN.seen HS8.out) y.f0 HSY.out rfl rfl ?_; rw [HBY.out]))
                          go_roundw
                          case rel => exact ⟨i + 1, by omega, by go_num, HS8, ⟨(inferInstance : Bel w7.heap.size w7 _).out (Nat.le_refl _)⟩⟩
                          case measure => simp [intOf]; omega
                      · clear hor hbj
                        go_wp2_with (first
                      | ((with_reducible refine gate_dst (N := 118) rfl ?_); refine seg_load rfl 35 (.tmp 117) rfl HY.out (A35 y) rfl rfl hu35 rfl info35s ?_)
                      | ((with_reducible refine gate_store (t := 35) (p := 19) rfl ?_); refine box_store rfl rfl 35 (.tmp 19) (.tmp 118) rfl held (A35 y) rfl rfl info35s (by rfl) (by rfl) ?_
                         intro w8 hx8 hg8
                         have p8 := prev_row hg8
                         have h8 : Holds w8 wr.heap.size (.cells (A35 y) 35) := ⟨hx8⟩
                         have a8 : Apart w2.heap.size (.row wr.heap.size) := apart_ne (by omega)
                         have a8' : Apart wo.heap.size (.row wr.heap.size) := apart_ne (by omega)
                         have o8 : OwnB w7.heap.size (.row wr.heap.size) := own_row sbi
                         have HS8 := Aside0.mk (seenN_prev (W' := w8) (seenN_prev (W' := wr.alloc (.cells Z35 35)) HS.out))
                         clear hx8 hg8)
                      | ((with_reducible refine gate_dst (N := 122) rfl ?_); refine seen_ask rfl (.tmp 119) (.tmp 121) rfl hu33 hu9 hu4 zero4 (SeenN.seen HS8.out) x.f0 HSZ.out rfl rfl ?_; rw [HBX.out])
                      | ((with_reducible refine gate_dst (N := 127) rfl ?_); refine gate_guard (by rfl) ?_; dsimp only; refine seen_ask rfl (.tmp 124) (.tmp 126) rfl hu33 hu9 hu4 zero4 (SeenN.seen HS8.out) y.f0 HSY.out rfl rfl ?_; rw [HBY.out]))
                        go_roundw
                        case rel => exact ⟨i + 1, by omega, by go_num, HS8, ⟨(inferInstance : Bel w7.heap.size w7 _).out (Nat.le_refl _)⟩⟩
                        case measure => simp [intOf]; omega
                  · clear HOR HBX
                    go_wp2_with fail
                    go_roundw
                    case rel => exact ⟨j + 1, by omega, by go_num, HS, ⟨(inferInstance : Bel w2.heap.size w2 _).out (Nat.le_refl _)⟩⟩
                    case measure => simp [intOf]; omega
              · clear HORD
                go_wp2_with (first
                  | ((with_reducible refine gate_dst (N := 165) rfl ?_); refine seenN_len rfl (.tmp 164) rfl hu33 HS.out rfl ?_; simp only [List.length_reverse]))
                refine (works_c _).mono ?_
                rintro e w9 ⟨rfl, hb⟩
                have p9 := prev_call hb
                clear hb
                go_wp2_with fail
                go_ret
                exact ⟨rfl, bel _ _⟩
set_option maxRecDepth 100000 in
set_option maxHeartbeats 4000000 in
theorem room_no (w : World) (A0 : Option Addr) (c0 : Nat) (l0 l : List S35) (q n : Int) (k : Nat) (e0 : Int) (hC : k35.C w A0 l0.length l0) (hc0 : l0.length ≤ c0) (hfew : aquiferlaw26_few.f k l0 = some l)
    (hvic : lru_Victims.f l q n = some ([], e0)) (he0 : e0 ≠ 0) :
    Calls Tryd.prog 4 #[.slice A0 l0.length c0, .int .i64 q, .int .i64 n] w fun e w' => e = .returned (.bool true) ∧ Below w.heap.size w w' := by
  have hfw := fun (W : World) (h : k35.C W A0 l0.length l0) => aquiferlaw26_few.calls k A0 c0 l0 l W h hc0 hfew
  have HFW := Aside0.mk hfw
  have hvc := fun (A : Option Addr) (c : Nat) (W : World) (h : k35.C W A l.length l) (hc : l.length ≤ c) => lru_Victims.calls A c l q n [] e0 W h hc hvic
  have HVC := Aside0.mk hvc
  have HC := Aside0.mk hC
  have d0 : (e0 != 0) = true := bne_iff_ne.mpr he0
  clear hC hc0 hfew hvic hfw hvc he0
  go_enter Tryd.func4, Tryd.ntmps4
  go_wp2_with fail
  refine (HFW.out _ ?hC).mono ?_
  case hC => exact HC.out
  rintro e w1 ⟨v1, rfl, hv1, hb⟩
  have p1 := prev_call hb
  obtain ⟨A, c, rfl⟩ := Kd.R_slice hv1
  have hcl := (Kd.R_reads' hv1).2.1
  have HCL := Aside0.mk (Kd.R_reads' hv1).2.2
  clear hb hv1
  go_wp2_with fail
  refine (HVC.out _ _ _ ?hC ?hc).mono ?_
  case hC => exact HCL.out
  case hc => exact hcl
  rintro e w2 ⟨v2, rfl, hv2, hb⟩
  have p2 := prev_call hb
  obtain ⟨A2, c2, rfl⟩ := Kd.R_slice hv2
  simp only [List.length_nil]
  clear hb hv2 HCL
  go_wp2_with fail
  refine (works_c _).mono ?_
  rintro e w9 ⟨rfl, hb⟩
  have p9 := prev_call hb
  clear hb
  go_wp2_with fail
  go_ret
  exact ⟨rfl, bel _ _⟩
/-- The law answers true. -/
def aquiferlaw26_LruRoom.f (_k : Nat) (_l0 : List S35) (_a1 _a2 : Int) : Option Bool := some true
theorem aquiferlaw26_LruRoom.calls (k : Nat) (A0 : Option Addr) (c0 : Nat) (l0 : List (S35)) (a1 : Int) (a2 : Int) (r : Bool) (w : World) (hr0 : Kd.C k35 w A0 l0.length l0) (hc0 : l0.length ≤ c0) (h : aquiferlaw26_LruRoom.f k l0 a1 a2 = some r) :
    Calls Tryd.prog 4 #[.slice A0 l0.length c0, .int .i64 a1, .int .i64 a2] w fun e w' => e = .returned (.bool r) ∧ Below w.heap.size w w' := by
  obtain rfl : true = r := Option.some.inj h
  have hs := few_short l0
  have hf := few_fn l0 41 (Nat.le_refl _)
  have hn : (fewL l0).length ≤ 40 := by
    unfold fewL
    rw [List.length_map, List.length_take]
    omega
  generalize fewL l0 = l at hs hf hn
  have hv := victims_fn hs a1 a2
  by_cases he : (victimsS l a1 a2).2 = 0
  · obtain ⟨lf, la, F⟩ := room_facts l a1 a2 he
    have hv' : lru_Victims.f l a1 a2 = some ((victimsS l a1 a2).1, 0) := by rw [hv, ← he]
    have hsm := (short_mem hs).2
    exact room_yes w A0 c0 l0 l a1 a2 41 _ lf la hr0 hc0 hf hv' hn hsm (Nat.le_trans F.hvl hn) (fun s hs => by obtain ⟨c, hc, e⟩ := F.hvs s hs; rw [← e]; exact hsm c hc) F.hok F.hq F.hn F.hnew F.hfix F.hroom F.hle F.hla F.hord
  · have hv' : lru_Victims.f l a1 a2 = some ([], (victimsS l a1 a2).2) := by rw [hv, ← vic_none he]
    exact room_no w A0 c0 l0 l a1 a2 41 _ hr0 hc0 hf hv' he
end Go.Proofs.YtdggdmdefmljlaaDoor.Q

namespace Go.Proofs.YtdggdmdefmljlaaDoor.Q
open Go Go.RowKit Go.Proofs.YtdggdmdefmljlaaDoorK Go.Proofs.YtdggdmdefmljlaaDoorW.PrintWords
theorem LruRoom_pure (l0 : List S35) (a1 a2 : Int) (_h0 : l0.length * 40 ≤ 140737488351232) (_g0 : ∀ a ∈ l0, good35 a) (_h1 : (Lit.int .i64 a1).wf = true) (_h2 : (Lit.int .i64 a2).wf = true) : ∃ k, aquiferlaw26_LruRoom.f k l0 a1 a2 = some true := ⟨0, rfl⟩
end Go.Proofs.YtdggdmdefmljlaaDoor.Q

namespace Go.Proofs.YtdggdmdefmljlaaDoor.lruRoom
open Go.ChangeShapes Go.WideShapes Go.ChangeAt Go.RowKit Go.Proofs.YtdggdmdefmljlaaDoorK Go.Proofs.YtdggdmdefmljlaaDoorW.PrintWords Go.Proofs.YtdggdmdefmljlaaDoor.Q
open Go.ChangeMaps (open_string shut_string)
set_option linter.unusedVariables false
theorem own : ownKnob Tryd.prog.godebug = none := by kernel_rfl
theorem laidOut : laidOutB Tryd.prog = true := by kernel_rfl
set_option maxRecDepth 100000 in
theorem lifted (os : Os) (started : os.Started) (H : Type) (enc : TypeId × Value → H) :
    ReturnsInHanded {} Tryd.checked os 4 .any (fun w args => (Rows.lruRoomSpec.pre enc Tryd.prog Tryd.f4 Rows.lruRoomRow.domain false w args ∧ laidMetH Tryd.prog Rows.lruRoomRow.laid w) ∧ sizedMet enc Tryd.prog Tryd.f4 (OpenSpec.ofChange Rows.lruRoomSpec) false w args) (Rows.lruRoomSpec.post enc Tryd.prog Tryd.f4 false true false false) := by
  refine returnsInHanded_of_change_and (C := Tryd.checked) (X := fun w _ => laidMetH Tryd.prog Rows.lruRoomRow.laid w) (fun _ _ _ hh h => h.of_heap hh) own started (by kernel_rfl) Tryd.func4
    (ChangeSpec.witness_shaped (enc := enc) (C := Tryd.checked) (os := os) (X := fun w _ => laidMetH Tryd.prog Rows.lruRoomRow.laid w) false (World.laidAll Tryd.prog os Rows.lruRoomRow.laid) #[.slice none 0 0, .int .i64 0, .int .i64 0] 8 (World.laidAll_os _ _ _)
      (World.shaped_of_ZipB (by kernel_rfl) (by kernel_rfl)) (by kernel_rfl) (by kernel_rfl) (by kernel_rfl)
      (by rw [MakeChecks.laidMetH_plain _ _ _ (by kernel_rfl)]; exact laidMet_laidAll _ (by kernel_rfl) (by kernel_rfl))) ?_
  intro W base args ds gs before hval0 hW hcnd hsz0 _ _
  have hsz : (DataW.weightsEach Tryd.prog (Tryd.f4.params.toList ++ Rows.lruRoomSpec.plain.varTypes Tryd.prog) (ds ++ gs)).all (· ≤ reachBytes) = true := hsz0
  have hval : ∀ (j : Nat) t v, Tryd.f4.params[j]? = some t → args[j]? = some v → Value.okWide Tryd.prog W .any base t v := hval0
  have hW' := hW
  obtain ⟨p, q, hA0, hV, rfl, hfz, hnd⟩ := hW
  have hA : DataW.TrodAll enc Tryd.prog W 0 (fun _ => true) true Tryd.f4.params.toList args.toList ds p := hA0
  rw [Tryd.params4] at hA hval hsz
  obtain ⟨v0, vs0, d0, ds0, p0, q0, hargs, rfl, rfl, h0, r0⟩ := trodAll_cons hA
  obtain ⟨v1, vs1, d1, ds1, p1, q1, rfl, rfl, rfl, h1, r1⟩ := trodAll_cons r0
  obtain ⟨v2, vs2, d2, ds2, p2, q2, rfl, rfl, rfl, h2, r2⟩ := trodAll_cons r1
  obtain ⟨rfl, rfl, rfl⟩ := trodAll_nil r2
  obtain rfl : args = #[v0, v1, v2] := by cases args; simp_all
  obtain ⟨rfl, rfl⟩ := trodVars_none hV
  obtain ⟨a0, len0, cap0, rfl⟩ := okWide_slice Tryd.underlying22 (hval 0 22 v0 rfl rfl)
  have k0 := h0
  have lt0 : ∀ x ∈ p0, x.block < W.heap.size := by obtain ⟨m, hm⟩ := k0; exact DataW.trod_lt m _ _ _ hm
  have y0 : len0 * 40 ≤ 140737488351232 := sized_row hsz (j := 0) (t := 22) rfl rfl Tryd.underlying22 (by kernel_rfl) h0
  obtain ⟨l0, ⟨A0, c0, he0, hl0, hC0⟩, _, hG0⟩ : ∃ l, (Kd.slice 35 k35).K W l [.slice a0 len0 cap0] ∧ l.length ≤ 9223372036854775807 ∧ ∀ a ∈ l, good35 a := by
    obtain ⟨fuel, hf⟩ := h0
    exact (opens_slice (e := 35) Tryd.underlying22 (by kernel_rfl) opens35) _ _ _ _ _ _ _ _ _ hf
  simp only [List.cons.injEq, Value.slice.injEq, and_true] at he0
  obtain ⟨rfl, rfl, rfl⟩ := he0
  obtain ⟨a1, rfl, rfl, rfl, w1⟩ := open_int Tryd.underlying3 (hval 1 3 v1 rfl rfl) h1
  obtain ⟨a2, rfl, rfl, rfl, w2⟩ := open_int Tryd.underlying3 (hval 2 3 v2 rfl rfl) h2
  clear hA0 hval0 hsz0 hsz
  obtain ⟨k, hP⟩ := LruRoom_pure l0 a1 a2 y0 hG0 w1 w2
  refine (aquiferlaw26_LruRoom.calls k _ _ l0 a1 a2 true W hC0 hl0 hP).mono fun e W' he0 => ?_
  obtain ⟨rfl, bel0⟩ := he0
  have bel : Below W.heap.size W W' := bel0
  exact ⟨_, rfl, _, _, _, [], _, [], hW', trodAll_mk1 (shut_bool Tryd.underlying4 _), (trodAll_cons_mk (Below.trod laidOut (by kernel_rfl) (of_decide_eq_true (by kernel_rfl)) k0 bel lt0) (trodAll_cons_mk (shut_int Tryd.underlying3 w1) (trodAll_cons_mk (shut_int Tryd.underlying3 w2) trodAll_mk0))), rfl, bel.frame _, fun h => by cases h⟩
theorem over : Rows.lruRoomRow.holds Tryd.pinned (OpenSpec.ofChange Rows.lruRoomSpec) :=
  OpenClaim.holds_of_wide 4 Tryd.f4 rfl rfl rfl rfl rfl rfl rfl ⟨rfl, rfl, rfl, rfl, rfl⟩ rfl rfl rfl rfl rfl (by kernel_rfl) Tryd.func4 (by kernel_rfl)
    (of_decide_eq_true (by kernel_rfl)) (by unfold Func.isWrapper; first | (rw [if_pos (by decide +kernel)]; kernel_rfl) | (rw [if_neg (by decide +kernel)]; exact ⟨rfl, rfl⟩))
    (fun os started H enc _ => lifted os started H enc)
theorem card : Rows.LruRoomCardSaid :=
  Claim7.holds_tied_plain_at .later [] [.data, .pinned] true (true, "ed3517321f6b201d801f28c50cabd34698d0c30173b98f1f6a6ddb8340a2a237") false over (fun _ h => by cases h) (by kernel_rfl) (fun _ h => by cases h) lruRoom_row_tie rfl ⟨rfl, rfl⟩ (by kernel_rfl) rfl
    (fun f fn hf hfn => by
      obtain rfl : f = 4 := Option.some.inj ((show Tryd.prog.funcNamed "aquifer/aquiferlaw26.LruRoom" = some 4 by kernel_rfl).symm.trans hf) |>.symm
      obtain rfl : fn = Tryd.f4 := (Option.some.inj (Tryd.func4.symm.trans hfn)).symm
      exact ⟨by kernel_rfl, fun j t ht => by
        rw [Tryd.params4] at ht
        have hm : t ∈ [22, 3, 3] := by simpa using Array.mem_of_getElem? ht
        have hall : ([22, 3, 3].all fun u => !Tryd.prog.wantsStandIn u) = true := by kernel_rfl
        exact (show Tryd.prog.wantsStandIn t = false by simpa using List.all_eq_true.1 hall t hm)⟩)
    (by kernel_rfl)
theorem proved : Rows.LruRoomCardSaid := card
#print axioms proved
end Go.Proofs.YtdggdmdefmljlaaDoor.lruRoom
namespace Go.Proofs.YtdggdmdefmljlaaDoor
/-- The card, under a short name, for the claim. -/
theorem lruRoom_holds : Rows.LruRoomCardSaid := lruRoom.proved
end Go.Proofs.YtdggdmdefmljlaaDoor
