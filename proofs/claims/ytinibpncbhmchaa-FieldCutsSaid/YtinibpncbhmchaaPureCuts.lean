import Derived.Test.YtinibpncbhmchaaPS
import Derived.Test.YtinibpncbhmchaaQ16
namespace Go.Proofs.Ytinibpncbhmchaa.Q
open Go Go.RowKit Go.Proofs.YtinibpncbhmchaaW.PrintWords
theorem wrap64_id (x : Int) (h0 : -9223372036854775808 ≤ x) (h1 : x < 9223372036854775808) : wrap64 x = x := by unfold wrap64; omega
theorem use_dec {p : Prop} [inst : Decidable p] {Q : Bool → Prop} (h1 : p → Q true) (h2 : ¬ p → Q false) : Q (decide p) := by
  by_cases h : p
  · rw [decide_eq_true h]; exact h1 h
  · rw [decide_eq_false h]; exact h2 h
theorem wrap_sum (a b : Nat) (ha : a ≤ 65536) (hb : b ≤ 65536) : wrap64 ((a : Int) + (b : Int)) = (a : Int) + (b : Int) := wrap64_id _ (by omega) (by omega)
theorem mkS_append (a b : List UInt8) : mkS a ++ mkS b = mkS (a ++ b) := by
  apply ByteArray.ext
  rw [ByteArray.data_append]
  simp [mkS]
theorem cuts_true (k : Nat) (hk : 100 ≤ k) (x0 x1 : List S39) (x2 : Int) (x7 x9 : ByteArray) : aquiferlaw04_FieldCuts.j0 k x0 x1 x2 x7 x9 true = some true := by
  obtain ⟨k, rfl⟩ : ∃ m, k = m + 1 := ⟨k - 1, by omega⟩
  simp only [aquiferlaw04_FieldCuts.j0]
  rw [if_pos trivial, works_fn k (by omega), Option.bind_some]
theorem fldU_two (f : S39) : 2 ≤ (fldU f).length := by
  unfold fldU
  rw [u8_len]
  unfold fldB
  have h : ∀ n, 1 ≤ (numB n).length := by
    intro n
    unfold numB numBf
    split <;> simp
  split
  · rw [List.length_cons]
    have := h f.f2.toNat
    omega
  · rw [List.length_cons, List.length_append]
    have := h f.f3.size
    omega
theorem cuts_j1 (k : Nat) (hk : 50 ≤ k) (X Y : List S39) (c : Int) (s t u : ByteArray) (n p : Nat) (hs : s.size = p + n + 1) (hu : u.size = p) (hn : 0 < n) (hcut : ∀ q, q < n → decS (s.extract 0 (p + 1 + q)) = ([], 5)) (hst : s.size + t.size ≤ 65536)
    (hY : 0 < Y.length) (hX : 0 < X.length) (hX2 : X.length ≤ 25) (b : Bool) (hb1 : ((decS (s ++ t)).2 == 0) = b) (hb2 : decide ((rd_T39 Y 0).f0 ≥ (rd_T39 X ((X.length - 1 : Nat) : Int)).f0) = b) :
    aquiferlaw04_FieldCuts.j1 (k + 1) X Y c s t u false = some true := by
  have e1 : wrap64 ((X.length : Int) - 1) = ((X.length - 1 : Nat) : Int) := by rw [wrap64_id _ (by omega) (by omega)]; omega
  have w1 : wrap64 (wrap64 ((s.size : Int) - (u.size : Int)) - 1) = (n : Int) := by rw [wrap64_id ((s.size : Int) - (u.size : Int)) (by omega) (by omega), wrap64_id _ (by omega) (by omega)]; omega
  have h1 := Int.tmod_lt_of_pos c (show (0 : Int) < n by omega)
  have h2 := Int.lt_tmod_of_pos c (show (0 : Int) < n by omega)
  have w3 : wrap64 (Int.tmod c n + (n : Int)) = Int.tmod c n + (n : Int) := wrap64_id _ (by omega) (by omega)
  have b2 : 0 ≤ Int.tmod (Int.tmod c n + (n : Int)) n ∧ Int.tmod (Int.tmod c n + (n : Int)) n < n := by
    rw [Int.tmod_eq_emod_of_nonneg (by omega)]
    exact ⟨Int.emod_nonneg _ (by omega), Int.emod_lt_of_pos _ (by omega)⟩
  obtain ⟨q, hq⟩ : ∃ q : Nat, Int.tmod (Int.tmod c n + (n : Int)) n = (q : Int) := ⟨_, (Int.toNat_of_nonneg b2.1).symm⟩
  have w4 : wrap64 (wrap64 ((u.size : Int) + 1) + (q : Int)) = ((p + 1 + q : Nat) : Int) := by
    have hqn : q < n := by omega
    clear b2 hq w3 h1 h2 w1 e1
    rw [wrap64_id ((u.size : Int) + 1) (by omega) (by omega), wrap64_id _ (by omega) (by omega)]
    omega
  have d1 := hcut q (by omega)
  simp only [aquiferlaw04_FieldCuts.j1, w1, w3, hq, w4, e1, dec_fn, Option.bind_some, Int.toNat_natCast, d1, hb1, hb2, works_fn k (by omega)]
  have hqn : q < n := by omega
  clear w1 w3 w4 e1 hq b2 h1 h2 hb1 hb2 d1 hcut
  rw [if_neg (by decide), if_neg (by omega), if_pos (by omega), if_pos (by omega), if_pos (by omega), if_pos trivial, if_pos (by omega), if_pos (by omega), if_pos (by omega), if_pos (by simp)]
/-- Where the law looks: a place within the last field's bytes. -/
theorem cuts_main (k : Nat) (hk : 200 ≤ k) (A B : List S39) (f g : S39) (c : Int) (hA : valid (A ++ [f]) 0) (hB : valid (g :: B) 0) (hla : A.length ≤ 24) (hl : (flat (A ++ [f])).length + (flat (g :: B)).length ≤ 65536) :
    aquiferlaw04_FieldCuts.j0 k (A ++ [f]) (g :: B) c (mkS (flat (A ++ [f]))) (mkS (flat (g :: B))) false = some true := by
  obtain ⟨k, rfl⟩ : ∃ m, k = m + 2 := ⟨k - 2, by omega⟩
  have hvA := ((valid_append A [f] 0).1 hA).1
  have hlen : ((A ++ [f]).length : Int) = (A.length : Int) + 1 := by simp
  have hw : wrap64 (((A ++ [f]).length : Int) - 1) = (A.length : Int) := by rw [hlen]; unfold wrap64; omega
  have htake : (A ++ [f]).take ((A.length : Int)).toNat = A := by simp
  have hfA : flat (A ++ [f]) = flat A ++ fldU f := by rw [flat_append, show flat [f] = fldU f by simp [flat]]
  have hfl : (flat (A ++ [f])).length = (flat A).length + (fldU f).length := by rw [hfA, List.length_append]
  have h2 := fldU_two f
  have hE : encGo A 0 [] = (mkS (flat A), 0) := (enc_iff A _).2 ⟨hvA, by omega, rfl⟩
  have hX : 0 < (A ++ [f]).length ∧ (A ++ [f]).length ≤ 25 ∧ (A ++ [f]).length - 1 = A.length := by simp; omega
  have w0 : decide (wrap64 (((mkS (flat (A ++ [f]))).size : Int) - ((mkS (flat A)).size : Int)) < 2) = false := by
    rw [size_mkS, size_mkS]
    apply decide_eq_false
    unfold wrap64
    omega
  have hj := cuts_j1 k (by omega) (A ++ [f]) (g :: B) c (mkS (flat (A ++ [f]))) (mkS (flat (g :: B))) (mkS (flat A)) ((fldU f).length - 1) (flat A).length (by rw [size_mkS, hfl]; omega) rfl (by omega) (by
      intro q hq
      rw [take_mkS]
      have hcut : (flat (A ++ [f])).take ((flat A).length + 1 + q) = flat A ++ (fldU f).take (1 + q) := by
        rw [hfA, Nat.add_assoc, List.take_length_add_append]
      rw [hcut]
      refine cut_none A f ((fldU f).take (1 + q)) ((fldU f).drop (1 + q)) (valid_wf hvA) (valid_wf hA f (by simp)) ?_ ?_ (List.take_append_drop _ _).symm
      · intro h
        have := congrArg List.length h
        rw [List.length_take] at this
        simp only [List.length_nil] at this
        omega
      · intro h
        have := congrArg List.length h
        rw [List.length_drop] at this
        simp only [List.length_nil] at this
        omega) (by rw [size_mkS, size_mkS]; exact hl) (by simp) hX.1 hX.2.1 (decide (f.f0 ≤ g.f0)) (by
      rw [mkS_append]
      have h2r := two_recs A B f g hA hB hl
      by_cases hh : f.f0 ≤ g.f0
      · rw [h2r.2 hh, decide_eq_true hh]
        rfl
      · rw [decide_eq_false hh]
        exact beq_eq_false_iff_ne.2 (fun h => hh (h2r.1 h))) (by
      have hr0 : rd_T39 (g :: B) 0 = g := rfl
      have hr1 : rd_T39 (A ++ [f]) (((A ++ [f]).length - 1 : Nat) : Int) = f := by rw [hX.2.2]; simp [rd_T39]
      rw [hr0, hr1])
  simp only [aquiferlaw04_FieldCuts.j0, hw, htake, enc_fn A (by omega) (k + 1) (by omega), Option.bind_some, hE, w0, hj]
  rw [if_neg (by decide), if_pos (by omega), if_pos (by omega), if_pos trivial]
theorem FieldCuts_pure (l0 l1 : List S39) (a2 : Int) (h : l0.length * 40 ≤ 140737488351232) (_hG : ∀ a ∈ l0, good39 a) (h1 : l1.length * 40 ≤ 140737488351232) (_hG1 : ∀ a ∈ l1, good39 a) (_h2 : (Lit.int .i64 a2).wf = true) : ∃ k, aquiferlaw04_FieldCuts.f k l0 l1 a2 = some true := by
  suffices hh : ∀ k, 300 ≤ k → aquiferlaw04_FieldCuts.f k l0 l1 a2 = some true from ⟨300, hh 300 (Nat.le_refl _)⟩
  intro k hk
  have hl := few_len l0
  have hl1 := few_len l1
  unfold aquiferlaw04_FieldCuts.f
  rw [few_fn l0 (by omega) k (by omega), Option.bind_some, few_fn l1 (by omega) k (by omega), Option.bind_some, enc_fn (fewL l0) (by omega) k (by omega), Option.bind_some, enc_fn (fewL l1) (by omega) k (by omega), Option.bind_some]
  generalize fewL l0 = X at hl
  generalize fewL l1 = Y at hl1
  obtain ⟨s, e, he⟩ : ∃ s e, encGo X 0 [] = (s, e) := ⟨_, _, rfl⟩
  obtain ⟨t, e', he'⟩ : ∃ s e, encGo Y 0 [] = (s, e) := ⟨_, _, rfl⟩
  rw [he, he']
  dsimp only
  by_cases c1 : e = 0
  · by_cases c2 : e' = 0
    · subst c1 c2
      rw [if_pos rfl, if_pos rfl]
      obtain ⟨hvX, hlX, rfl⟩ := (enc_iff X s).1 he
      obtain ⟨hvY, hlY, rfl⟩ := (enc_iff Y t).1 he'
      by_cases c3 : (X.length : Int) = 0
      · rw [if_pos c3]
        exact cuts_true k (by omega) _ _ _ _ _
      · rw [if_neg c3]
        by_cases c4 : (Y.length : Int) = 0
        · rw [if_pos c4]
          exact cuts_true k (by omega) _ _ _ _ _
        · rw [if_neg c4]
          simp only [size_mkS]
          have hws := wrap_sum _ _ hlX hlY
          refine use_dec (Q := fun d => aquiferlaw04_FieldCuts.j0 k X Y a2 (mkS (flat X)) (mkS (flat Y)) d = some true) (fun c5 => ?_) (fun c5 => ?_)
          · exact cuts_true k (by omega) _ _ _ _ _
          · rw [hws] at c5
            obtain ⟨A, f, rfl⟩ : ∃ A f, X = A ++ [f] := by
              rcases List.eq_nil_or_concat X with rfl | ⟨A, f, rfl⟩
              · exact absurd rfl c3
              · exact ⟨A, f, by simp⟩
            obtain ⟨g, B, rfl⟩ : ∃ g B, Y = g :: B := by
              cases Y with
              | nil => exact absurd rfl c4
              | cons g B => exact ⟨g, B, rfl⟩
            exact cuts_main k (by omega) A B f g a2 hvX hvY (by simp at hl; omega) (by omega)
    · rw [if_pos c1, if_neg c2]
      exact cuts_true k (by omega) _ _ _ _ _
  · rw [if_neg c1]
    exact cuts_true k (by omega) _ _ _ _ _
end Go.Proofs.Ytinibpncbhmchaa.Q
