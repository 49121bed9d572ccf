import Derived.Test.YtinibpncbhmchaaPT
import Derived.Test.YtinibpncbhmchaaQ20
namespace Go.Proofs.Ytinibpncbhmchaa.Q
open Go Go.RowKit Go.Proofs.YtinibpncbhmchaaW.PrintWords
/-! ### Fields put in one by one -/
def okF (f : S39) : Bool := decide (fault f 0 = 0)
def puts (L : List S39) : List S39 := L.foldl putL []
theorem puts_snoc (L : List S39) (f : S39) : puts (L ++ [f]) = putL (puts L) f := by unfold puts; rw [List.foldl_append]; rfl
theorem enc_one (f : S39) : (encGo [f] 0 []).2 = fault f 0 := by
  by_cases h : fault f 0 = 0
  · rw [encGo, if_pos h, encGo, if_neg (by
      have := fldB_len f (fault_ok h).2.1
      simp
      omega), h]
  · rw [encGo, if_neg h]
def srt (L : List S39) : Prop := L.Pairwise (fun x y => x.f0 ≤ y.f0)
theorem drop_gt (t : Int) (L : List S39) : srt L → ∀ x ∈ L.dropWhile (below t), t < x.f0 := by
  induction L with
  | nil => intro _ x hx; cases hx
  | cons y l ih =>
    intro hs x hx
    have hs' := List.pairwise_cons.1 hs
    by_cases hb : below t y = true
    · rw [List.dropWhile_cons_of_pos hb] at hx
      exact ih hs'.2 x hx
    · rw [List.dropWhile_cons_of_neg hb] at hx
      have hy : t < y.f0 := by simpa [below] using hb
      rcases List.mem_cons.1 hx with rfl | hx
      · exact hy
      · exact Int.lt_of_lt_of_le hy (hs'.1 x hx)
theorem take_le (t : Int) (L : List S39) : ∀ x ∈ L.takeWhile (below t), x.f0 ≤ t := by
  intro x hx
  have h := List.all_eq_true.1 (List.all_takeWhile (p := below t) (l := L)) x hx
  simpa [below] using h
theorem put_mem (L : List S39) (f x : S39) : x ∈ putL L f → x ∈ L ∨ x = f := by
  unfold putL
  intro h
  rcases List.mem_append.1 h with h | h
  · rcases List.mem_append.1 h with h | h
    · exact .inl ((List.takeWhile_prefix _).subset h)
    · exact .inr (List.mem_singleton.1 h)
  · exact .inl ((List.dropWhile_suffix _).subset h)
theorem put_srt (L : List S39) (f : S39) (h : srt L) : srt (putL L f) := by
  unfold putL srt
  rw [List.append_assoc, List.pairwise_append]
  refine ⟨h.sublist (List.takeWhile_sublist _), ?_, ?_⟩
  · rw [List.singleton_append, List.pairwise_cons]
    exact ⟨fun x hx => Int.le_of_lt (drop_gt f.f0 L h x hx), h.sublist (List.dropWhile_sublist _)⟩
  · intro x hx y hy
    have h1 := take_le f.f0 L x hx
    rcases List.mem_cons.1 hy with rfl | hy
    · exact h1
    · exact Int.le_trans h1 (Int.le_of_lt (drop_gt f.f0 L h y hy))
theorem list_snoc {P : List S39 → Prop} (h0 : P []) (h1 : ∀ L f, P L → P (L ++ [f])) (L : List S39) : P L := by
  have h : ∀ R : List S39, P R.reverse := by
    intro R
    induction R with
    | nil => exact h0
    | cons f l ih => rw [List.reverse_cons]; exact h1 _ _ ih
  rw [← List.reverse_reverse L]
  exact h _
theorem puts_inv (L : List S39) : srt (puts L) ∧ (puts L).length = L.length ∧ (∀ x ∈ puts L, x ∈ L) ∧ ∀ t, textsOf (puts L) t = textsOf L t := by
  refine list_snoc (P := fun L => srt (puts L) ∧ (puts L).length = L.length ∧ (∀ x ∈ puts L, x ∈ L) ∧ ∀ t, textsOf (puts L) t = textsOf L t) ?_ ?_ L
  · exact ⟨List.Pairwise.nil, rfl, fun x hx => hx, fun t => rfl⟩
  · intro L f ih
    obtain ⟨h1, h2, h3, h4⟩ := ih
    rw [puts_snoc]
    refine ⟨put_srt _ _ h1, by rw [put_len, h2]; simp, fun x hx => ?_, fun t => ?_⟩
    · rcases put_mem _ _ _ hx with h | h
      · exact List.mem_append_left _ (h3 x h)
      · exact List.mem_append_right _ (List.mem_singleton.2 h)
    · have hL : textsOf (L ++ [f]) t = textsOf L t ++ textsOf [f] t := by unfold textsOf; rw [List.filter_append, List.map_append]
      rw [hL, ← h4 t]
      have hsp : textsOf (puts L) t = textsOf ((puts L).takeWhile (below f.f0)) t ++ textsOf ((puts L).dropWhile (below f.f0)) t := by
        conv => lhs; rw [← List.takeWhile_append_dropWhile (p := below f.f0) (l := puts L)]
        unfold textsOf
        rw [List.filter_append, List.map_append]
      have hp : textsOf (putL (puts L) f) t = textsOf ((puts L).takeWhile (below f.f0)) t ++ textsOf [f] t ++ textsOf ((puts L).dropWhile (below f.f0)) t := by
        unfold textsOf putL
        rw [List.filter_append, List.filter_append, List.map_append, List.map_append]
      rw [hp, hsp]
      by_cases hf : isOf t 1 f = true
      · have ht := ((isOf_iff _ _ _).1 hf).1
        have hd : textsOf ((puts L).dropWhile (below f.f0)) t = [] := by
          unfold textsOf
          rw [List.map_eq_nil_iff, List.filter_eq_nil_iff]
          intro x hx hc
          have := drop_gt f.f0 (puts L) h1 x hx
          have := ((isOf_iff _ _ _).1 hc).1
          omega
        rw [hd]
        simp
      · have hd : textsOf [f] t = [] := by
          unfold textsOf
          rw [List.filter_cons_of_neg hf]
          rfl
        rw [hd]
        simp
theorem valid_of (L : List S39) : ∀ a, (∀ x ∈ L, fault x 0 = 0 ∧ a ≤ x.f0) → srt L → valid L a := by
  induction L with
  | nil => intro a _ _; exact trivial
  | cons f l ih =>
    intro a hx hs
    have hs' := List.pairwise_cons.1 hs
    have hf := hx f (by simp)
    exact ⟨(fault_more f 0 a hf.1).2 hf.2, ih f.f0 (fun x hm => ⟨(hx x (List.mem_cons_of_mem _ hm)).1, hs'.1 x hm⟩) hs'.2⟩
theorem okF_iff (f : S39) : okF f = true ↔ fault f 0 = 0 := by simp [okF]
theorem enc_puts (X : List S39) : (∃ s, encGo (puts (X.filter okF)) 0 [] = (s, 0)) ∨ encGo (puts (X.filter okF)) 0 [] = (⟨#[]⟩, 3) := by
  obtain ⟨h1, h2, h3, h4⟩ := puts_inv (X.filter okF)
  have hv : valid (puts (X.filter okF)) 0 := valid_of _ 0 (fun x hx => by
    have := (List.mem_filter.1 (h3 x hx)).2
    have hf := (okF_iff x).1 this
    exact ⟨hf, (fault_ok hf).2.2⟩) h1
  rw [enc_valid _ 0 [] hv]
  split
  · exact .inr rfl
  · exact .inl ⟨_, rfl⟩
theorem filt_take (X : List S39) (i : Nat) (h : i < X.length) : (X.take (i + 1)).filter okF = (X.take i).filter okF ++ (if okF X[i] then [X[i]] else []) := by
  rw [List.take_succ_eq_append_getElem h, List.filter_append]
  cases hq : okF X[i] <;> simp [hq]
theorem texts_snoc (L : List S39) (f : S39) (t : Int) : textsOf (L ++ [f]) t = textsOf L t ++ (if isOf t 1 f then [f.f3] else []) := by
  unfold textsOf
  rw [List.filter_append, List.map_append]
  cases hq : isOf t 1 f <;> simp [hq]
theorem enc_elt (X : List S39) (i k : Nat) (h : i < X.length) (hk : 13 ≤ k) : field_Encode.f k [(⟨(rd_T39 X (i : Int)).f0, (rd_T39 X (i : Int)).f1, (rd_T39 X (i : Int)).f2, (rd_T39 X (i : Int)).f3⟩ : S39)] = some (encGo [X[i]] 0 []) := by
  rw [rd_at X i h]
  exact enc_fn [X[i]] (by simp) k (by simp; omega)
theorem puts_l2 (X r : List S39) (n : Int) (i1 : Nat) (hX : X.length ≤ 25) (hr : r = puts (X.filter okF)) (t kd nn : Int) (s : ByteArray) (M : Nat) (hM : 60 ≤ M)
    (hnext : ∀ k, M ≤ k → aquiferlaw04_FieldPuts.l1 k X r n X (X.length : Int) (wrap64 ((i1 : Int) + 1)) = some true) (d : Nat) :
    ∀ (i k : Nat), i + d = X.length → d + M + 1 ≤ k → aquiferlaw04_FieldPuts.l2 k X r n (textsOf ((X.take i).filter okF) t) X (X.length : Int) (i1 : Int) X (X.length : Int) (i : Int) t kd nn s = some true := by
  induction d with
  | zero =>
    intro i k hi hk
    obtain ⟨k, rfl⟩ : ∃ m, k = m + 1 := ⟨k - 1, by omega⟩
    have hrl : r.length ≤ 25 := by
      rw [hr, (puts_inv _).2.1]
      exact Nat.le_trans (List.length_filter_le _ _) hX
    have ht := texts_len (X.filter okF) t
    have hf := List.length_filter_le okF X
    simp only [aquiferlaw04_FieldPuts.l2]
    rw [if_neg (by omega), List.take_of_length_le (by omega), texts_fn2 r (by omega), Option.bind_some, hr, (puts_inv _).2.2.2 t, sameT_refl _ (by omega) k (by omega), Option.bind_some, if_pos rfl, ← hr]
    exact hnext k (by omega)
  | succ d ih =>
    intro i k hi hk
    obtain ⟨k, rfl⟩ : ∃ m, k = m + 1 := ⟨k - 1, by omega⟩
    have hlt : i < X.length := by omega
    have hI := ih (i + 1) k (by omega) (by omega)
    rw [filt_take X i hlt] at hI
    simp only [aquiferlaw04_FieldPuts.l2]
    rw [if_pos (by omega), if_pos (by omega), if_pos (by omega), enc_elt X i k hlt (by omega), Option.bind_some, enc_one, rd_at X i hlt, wrap_succ i (by omega)]
    have hal : (textsOf ((X.take i).filter okF) t).length ≤ 25 := Nat.le_trans (texts_len _ _) (Nat.le_trans (List.length_filter_le _ _) (by simp; omega))
    generalize X[i] = f at hI ⊢
    by_cases h0 : fault f 0 = 0
    · rw [if_pos h0]
      rw [if_pos ((okF_iff f).2 h0), texts_snoc] at hI
      by_cases h1 : f.f0 = t
      · rw [if_pos h1]
        by_cases h2 : f.f1 = 1
        · rw [if_pos h2, if_pos (by omega)]
          rw [if_pos ((isOf_iff _ _ _).2 ⟨h1, h2⟩)] at hI
          exact hI
        · rw [if_neg h2]
          rw [if_neg (fun h => h2 ((isOf_iff _ _ _).1 h).2), List.append_nil] at hI
          exact hI
      · rw [if_neg h1]
        rw [if_neg (fun h => h1 ((isOf_iff _ _ _).1 h).1), List.append_nil] at hI
        exact hI
    · rw [if_neg h0]
      rw [if_neg (fun h => h0 ((okF_iff f).1 h)), List.append_nil] at hI
      exact hI
theorem puts_l1 (X r : List S39) (hX : X.length ≤ 25) (hr : r = puts (X.filter okF)) (d : Nat) :
    ∀ (i k : Nat), i + d = X.length → d * 30 + 60 ≤ k → aquiferlaw04_FieldPuts.l1 k X r (r.length : Int) X (X.length : Int) (i : Int) = some true := by
  induction d with
  | zero =>
    intro i k hi hk
    obtain ⟨k, rfl⟩ : ∃ m, k = m + 1 := ⟨k - 1, by omega⟩
    simp only [aquiferlaw04_FieldPuts.l1]
    rw [if_neg (by omega), if_pos trivial, works_fn k (by omega), Option.bind_some]
  | succ d ih =>
    intro i k hi hk
    obtain ⟨k, rfl⟩ : ∃ m, k = m + 2 := ⟨k - 2, by omega⟩
    have hlt : i < X.length := by omega
    have hnext : ∀ k, d * 30 + 60 ≤ k → aquiferlaw04_FieldPuts.l1 k X r (r.length : Int) X (X.length : Int) (wrap64 ((i : Int) + 1)) = some true := fun k hk => by
      rw [wrap_succ i (by omega)]
      exact ih (i + 1) k (by omega) hk
    have hj : ∀ b a0 a1 a2 a3, aquiferlaw04_FieldPuts.j2 (k + 1) X r (r.length : Int) X (X.length : Int) (i : Int) b a0 a1 a2 a3 = some true := by
      intro b a0 a1 a2 a3
      simp only [aquiferlaw04_FieldPuts.j2]
      by_cases hb : b = true
      · rw [if_pos hb]
        exact hnext k (by omega)
      · rw [if_neg hb]
        exact puts_l2 X r (r.length : Int) i hX hr a0 a1 a2 a3 (d * 30 + 60) (by omega) hnext X.length 0 k (by omega) (by omega)
    rw [aquiferlaw04_FieldPuts.l1]
    rw [if_pos (by omega), if_pos (by omega), if_pos (by omega), enc_elt X i (k + 1) hlt (by omega), Option.bind_some]
    split
    · exact hj _ _ _ _ _
    · exact hj _ _ _ _ _
theorem puts_l0 (X : List S39) (hX : X.length ≤ 25) (d : Nat) :
    ∀ (i k : Nat) (r : List S39), i + d = X.length → d + 900 ≤ k → r = puts ((X.take i).filter okF) → aquiferlaw04_FieldPuts.l0 k X r (r.length : Int) X (X.length : Int) (i : Int) = some true := by
  induction d with
  | zero =>
    intro i k r hi hk hr
    obtain ⟨k, rfl⟩ : ∃ m, k = m + 1 := ⟨k - 1, by omega⟩
    rw [List.take_of_length_le (by omega)] at hr
    have hrl : r.length ≤ 25 := by
      rw [hr, (puts_inv _).2.1]
      exact Nat.le_trans (List.length_filter_le _ _) hX
    have hl1 := puts_l1 X r hX hr X.length 0 k (by omega) (by omega)
    simp only [aquiferlaw04_FieldPuts.l0]
    rw [if_neg (by omega), enc_fn r (by omega) k (by omega), Option.bind_some]
    rcases enc_puts X with ⟨s, hs⟩ | hs
    · rw [← hr] at hs
      rw [hs, if_pos rfl]
      exact hl1
    · rw [← hr] at hs
      rw [hs, if_neg (by decide), if_pos rfl, if_pos (show (((⟨#[]⟩ : ByteArray), (3 : Int)).1.size : Int) = 0 from rfl), works_fn k (by omega), Option.bind_some]
  | succ d ih =>
    intro i k r hi hk hr
    obtain ⟨k, rfl⟩ : ∃ m, k = m + 1 := ⟨k - 1, by omega⟩
    have hlt : i < X.length := by omega
    have hrl : r.length ≤ 25 := by
      rw [hr, (puts_inv _).2.1]
      exact Nat.le_trans (List.length_filter_le _ _) (by simp; omega)
    simp only [aquiferlaw04_FieldPuts.l0]
    rw [if_pos (by omega), if_pos (by omega), if_pos (by omega), enc_elt X i k hlt (by omega), Option.bind_some, enc_one, rd_at X i hlt, wrap_succ i (by omega), wrap_succ r.length (by omega)]
    have hI := filt_take X i hlt
    have hih := fun r => ih (i + 1) k r (by omega) (by omega)
    rw [hI] at hih
    generalize X[i] = f at hih ⊢
    by_cases h0 : fault f 0 = 0
    · rw [if_pos h0, put_fn2 r (by omega) f, Option.bind_some]
      rw [if_pos ((okF_iff f).2 h0)] at hih
      have := hih (putL r f) (by rw [puts_snoc, hr])
      rw [put_len] at this
      exact this
    · rw [if_neg h0]
      rw [if_neg (fun h => h0 ((okF_iff f).1 h)), List.append_nil] at hih
      exact hih r hr
theorem FieldPuts_pure (l0 : List S39) (h : l0.length * 40 ≤ 140737488351232) (_hG : ∀ a ∈ l0, good39 a) : ∃ k, aquiferlaw04_FieldPuts.f k l0 = some true := by
  suffices hh : ∀ k, 1000 ≤ k → aquiferlaw04_FieldPuts.f k l0 = some true from ⟨1000, hh 1000 (Nat.le_refl _)⟩
  intro k hk
  have hl := few_len l0
  unfold aquiferlaw04_FieldPuts.f
  rw [few_fn l0 (by omega) k (by omega), Option.bind_some]
  generalize fewL l0 = X at hl
  exact puts_l0 X hl X.length 0 k [] (by omega) (by omega) rfl
end Go.Proofs.Ytinibpncbhmchaa.Q
