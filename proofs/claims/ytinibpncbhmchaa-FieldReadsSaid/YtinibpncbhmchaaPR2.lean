import Derived.Test.YtinibpncbhmchaaPR
import Derived.Test.YtinibpncbhmchaaQ14
namespace Go.Proofs.Ytinibpncbhmchaa.Q
open Go Go.RowKit Go.Proofs.YtinibpncbhmchaaW.PrintWords Go.Proofs.YtinibpncbhmchaaW.PrintLast Go.Proofs.YtinibpncbhmchaaW.PrintMore
set_option linter.unusedSimpArgs false
set_option linter.unusedVariables false
theorem wrap_id (x : Int) (h0 : -9223372036854775808 ≤ x) (h1 : x < 9223372036854775808) : wrap64 x = x := by unfold wrap64; omega
theorem bt_nat (s : ByteArray) (i : Nat) (h : i < s.data.toList.length) : bt s (i : Int) = ((s.data.toList[i]).toNat : Int) := by
  have h' : i < s.size := by simpa using h
  unfold bt
  rw [dif_pos (by simpa using h')]
  simp only [Int.toNat_natCast, Array.getElem_toList]
  rfl
theorem drop_cons (l : List UInt8) (i : Nat) (h : i < l.length) : l.drop i = l[i] :: l.drop (i + 1) := List.drop_eq_getElem_cons h
theorem number_ok' (j : Nat) : ∀ (n : Nat) (k : Nat), n < 128 ^ (j + 1) → n < 9223372036854775808 → j < 20 → j < k → aquiferref04_number.f k (n : Int) = some (numBf j n) := by
  induction j with
  | zero =>
    intro n k hn h63 hj hk
    obtain ⟨k, rfl⟩ : ∃ m, k = m + 1 := ⟨k - 1, by omega⟩
    simp at hn
    simp only [aquiferref04_number.f, numBf]
    rw [if_pos (by omega), Int.emod_eq_of_lt (by omega) (by omega)]
  | succ j ih =>
    intro n k hn h63 hj hk
    obtain ⟨k, rfl⟩ : ∃ m, k = m + 1 := ⟨k - 1, by omega⟩
    simp only [aquiferref04_number.f, numBf]
    by_cases c : n < 128
    · rw [if_pos (by omega), if_pos c, Int.emod_eq_of_lt (by omega) (by omega)]
    · have e1 : (wrap64 (128 + (n : Int).tmod 128)) % 256 = ((128 + n % 128 : Nat) : Int) := by
        rw [Int.tmod_eq_emod_of_nonneg (by omega)]
        unfold wrap64
        omega
      have e2 : wrap64 ((n : Int).tdiv 128) = ((n / 128 : Nat) : Int) := by
        rw [Int.tdiv_eq_ediv_of_nonneg (by omega)]
        unfold wrap64
        omega
      have hl := numBf_len j (n / 128)
      rw [if_neg (by omega), if_neg c, e1, e2, Option.bind_some, ih (n / 128) k (by rw [Nat.pow_succ] at hn; exact Nat.div_lt_of_lt_mul (by rw [Nat.mul_comm]; exact hn)) (by omega) (by omega) (by omega), Option.bind_some, if_pos (by simp; omega)]
      rfl
theorem number_gen (k : Nat) (hk : 10 ≤ k) (n : Nat) (hn : n < 9223372036854775808) : aquiferref04_number.f k (n : Int) = some (numB n) :=
  number_ok' 9 n k (by rw [p128]; omega) hn (by omega) (by omega)
theorem bytes_gen (k : Nat) (hk : 10 ≤ k) (c : UInt8) (n : Int) (x : ByteArray) (h0 : 0 ≤ n) (hn : n < 9223372036854775808) (hx : x.size ≤ 65536) :
    aquiferref04_bytes.f k ((c.toNat / 2 : Nat) : Int) ((c.toNat % 2 : Nat) : Int) n x = some ((c.toNat : Int) :: (if ((c.toNat % 2 : Nat) : Int) = 0 then numB n.toNat else numB x.size ++ bytesOf x)) := by
  have hc := c.toNat_lt
  obtain ⟨m, rfl⟩ := Int.eq_ofNat_of_zero_le h0
  have hb : (wrap64 ((wrap64 (2 * ((c.toNat / 2 : Nat) : Int))) + ((c.toNat % 2 : Nat) : Int))) % 256 = (c.toNat : Int) := by
    rw [wrap_id (2 * ((c.toNat / 2 : Nat) : Int)) (by omega) (by omega), wrap_id _ (by omega) (by omega)]
    omega
  have h1 := numB_len m
  have h2 := numB_len x.size
  unfold aquiferref04_bytes.f
  rw [hb, Option.bind_some]
  by_cases e : ((c.toNat % 2 : Nat) : Int) = 0
  · rw [if_pos e, if_pos e, number_gen k hk m (by omega), Option.bind_some, if_pos (by simp; omega)]
    rfl
  · rw [if_neg e, if_neg e, number_gen k hk x.size (by omega), Option.bind_some, if_pos (by simp; omega), Option.bind_some, if_pos (by simp; omega)]
    rfl
/-- How great a byte's weight may be, so many bytes ahead of the last one. -/
def bnd : Nat → Int
  | 0 => 9223372036854775808
  | f + 1 => bnd f / 128
theorem bnd_le (f : Nat) : 0 ≤ bnd f ∧ bnd (f + 1) ≤ 72057594037927936 := by
  induction f with
  | zero => exact ⟨by decide, by decide⟩
  | succ f ih =>
    obtain ⟨h1, h2⟩ := ih
    have h3 : bnd (f + 1) = bnd f / 128 := rfl
    have h4 : bnd (f + 1 + 1) = bnd (f + 1) / 128 := rfl
    omega
theorem byte_mul (a : Nat) (w : Int) (ha : a < 128) (hw : 0 ≤ w) (hw2 : w ≤ 72057594037927936) : 0 ≤ (a : Int) * w ∧ (a : Int) * w ≤ 127 * w ∧ wrap64 ((a : Int) * w) = (a : Int) * w := by
  have h1 : (a : Int) * w ≤ 127 * w := Int.mul_le_mul_of_nonneg_right (by omega) hw
  have h2 : 0 ≤ (a : Int) * w := Int.mul_nonneg (by omega) hw
  exact ⟨h2, h1, wrap_id _ (by omega) (by omega)⟩
def jb (kd v u : Int) : Bool := if kd = 1 then decide (v > u) else false
theorem j3_true (k : Nat) (s : ByteArray) (out : List S39) (a b c d e f g : Int) (x : ByteArray) : aquiferref04_Decode.j3 (k + 1) s out a b c d true e f g x = some ([], 5) := by
  simp only [aquiferref04_Decode.j3]
  rw [if_pos trivial]
theorem j2_out (k : Nat) (s : ByteArray) (out : List S39) (a b c d e f g : Int) (x : ByteArray) (h : d ≥ (s.size : Int) ∨ wrap64 (d - a) ≥ 10) : aquiferref04_Decode.j2 (k + 2) s out a b c d e f g x = some ([], 5) := by
  simp only [aquiferref04_Decode.j2]
  by_cases h1 : d ≥ (s.size : Int)
  · rw [if_pos h1]
    exact j3_true _ _ _ _ _ _ _ _ _ _ _
  · rw [if_neg h1]
    rw [decide_eq_true (h.resolve_left h1)]
    exact j3_true _ _ _ _ _ _ _ _ _ _ _
theorem j2_in (k : Nat) (s : ByteArray) (out : List S39) (a n w e kd g : Int) (x : ByteArray) (p c : Nat) (v : Int) (hs : s.size ≤ 65536) (hp : p < s.size) (ha : wrap64 ((p : Int) - a) < 10) (hc : wrap64 (bt s (p : Int)) = (c : Int)) (hv : wrap64 (n + (wrap64 ((c : Int) * w))) = v) (hv0 : 0 ≤ v) :
    aquiferref04_Decode.j2 (k + 2) s out a n w (p : Int) e kd g x = aquiferref04_Decode.j4 k s out a v ((p + 1 : Nat) : Int) (jb kd v ((s.size - (p + 1) : Nat) : Int)) e kd g x := by
  have hwp1 : wrap64 ((p : Int) + 1) = ((p + 1 : Nat) : Int) := by rw [wrap_id _ (by omega) (by omega)]; omega
  have hws : wrap64 ((s.size : Int) - ((p + 1 : Nat) : Int)) = ((s.size - (p + 1) : Nat) : Int) := by rw [wrap_id _ (by omega) (by omega)]; omega
  simp only [aquiferref04_Decode.j2]
  rw [if_neg (by omega), decide_eq_false (by omega)]
  simp only [aquiferref04_Decode.j3]
  rw [if_neg (by decide), if_pos (by omega), if_pos (by omega), hc, hv, if_neg (by omega), hwp1, hws]
  unfold jb
  by_cases hk : kd = 1
  · rw [if_pos hk, if_pos hk]
  · rw [if_neg hk, if_neg hk]
/-- The number's loop. -/
theorem l1_ok (s : ByteArray) (hs : s.size ≤ 65536) (out : List S39) (at_ tg kd : Nat) (r : List S39 × Int) (K0 : Nat) (f : Nat) : ∀ (p : Nat) (n w w' : Int) (k : Nat), p + f = at_ + 10 → at_ < p → p ≤ s.size + 10 → (1 ≤ f → w' = w ∧ 0 < w ∧ w ≤ bnd f ∧ 0 ≤ n ∧ n < w) →
    (refN f w n (s.data.toList.drop p) = none → r = ([], 5)) →
    (∀ v u, refN f w n (s.data.toList.drop p) = some (v, u) → ∀ k', K0 ≤ k' → aquiferref04_Decode.j4 k' s out (at_ : Int) v ((s.size - u.length : Nat) : Int) (jb (kd : Int) v (u.length : Int)) (tg : Int) (kd : Int) 0 (⟨#[]⟩ : ByteArray) = some r) →
    K0 + f + 3 ≤ k → aquiferref04_Decode.l1 k s out (at_ : Int) n w' (p : Int) (tg : Int) (kd : Int) 0 (⟨#[]⟩ : ByteArray) = some r := by
  have hsl : s.data.toList.length = s.size := by simp
  induction f with
  | zero =>
    intro p n w w' k hp hat hps _ hnone _ hk
    obtain ⟨k, rfl⟩ : ∃ m, k = m + 3 := ⟨k - 3, by omega⟩
    rw [hnone rfl]
    have hw : wrap64 ((p : Int) - (at_ : Int)) = 10 := by rw [wrap_id _ (by omega) (by omega)]; omega
    have hj := j2_out k s out (at_ : Int) n w' (p : Int) (tg : Int) (kd : Int) 0 ⟨#[]⟩ (.inr (by omega))
    simp only [aquiferref04_Decode.l1]
    rw [hw, if_neg (show ¬ (10 : Int) < 10 by decide), hj]
    split <;> rfl
  | succ f ih =>
    intro p n w w' k hp hat hps hinv hnone hsome hk
    obtain ⟨k, rfl⟩ : ∃ m, k = m + 3 := ⟨k - 3, by omega⟩
    obtain ⟨rfl, hw0, hwb, hn0, hn1⟩ := hinv (by omega)
    by_cases hlt : p < s.size
    · have g1 : (p : Int) < (s.size : Int) := by omega
      have g2 : (0 : Int) ≤ (p : Int) := by omega
      have hlt' : p < s.data.toList.length := by omega
      rw [drop_cons _ _ hlt'] at hnone hsome
      have hbt := bt_nat s p hlt'
      generalize s.data.toList[p] = c at hnone hsome hbt
      have hcl := c.toNat_lt
      have hb := (bnd_le f).2
      have hwp := Aside0.mk (show wrap64 ((p : Int) - (at_ : Int)) < 10 by rw [wrap_id _ (by omega) (by omega)]; omega)
      have hwc := Aside0.mk (show wrap64 (bt s (p : Int)) = (c.toNat : Int) by rw [hbt, wrap_id _ (by omega) (by omega)])
      by_cases hc : c.toNat < 128
      · rw [refN, if_pos hc] at hsome
        have hs1 := hsome _ _ rfl
        obtain ⟨m0, m1, m2_⟩ := byte_mul c.toNat w' hc (by omega) (by omega)
        have m2 := Aside0.mk m2_
        clear m2_
        have hv := Aside0.mk (show wrap64 (n + (wrap64 ((c.toNat : Int) * w'))) = n + (c.toNat : Int) * w' by
          rw [m2.out, wrap_id _ (by omega) (by omega)])
        have hlen : (s.data.toList.drop (p + 1)).length = s.size - (p + 1) := by rw [List.length_drop, hsl]
        have hpl : s.size - (s.data.toList.drop (p + 1)).length = p + 1 := by rw [hlen]; omega
        rw [hpl, hlen] at hs1
        have hj := j2_in k s out (at_ : Int) n w' (tg : Int) (kd : Int) 0 ⟨#[]⟩ p c.toNat _ hs hlt hwp.out hwc.out hv.out (by omega)
        simp only [aquiferref04_Decode.l1]
        rw [if_pos (show (p : Int) < (s.size : Int) by omega), if_pos hwp.out, if_pos (show (0 : Int) ≤ (p : Int) by omega), if_neg (show ¬ bt s (p : Int) ≥ 128 by rw [hbt]; omega), hj]
        exact hs1 k (by omega)
      · have g3 : bt s (p : Int) ≥ 128 := by rw [hbt]; omega
        rw [refN, if_neg hc] at hnone hsome
        have hcc := Aside0.mk (show wrap64 ((wrap64 (bt s (p : Int))) - 128) = ((c.toNat - 128 : Nat) : Int) by rw [hwc.out, wrap_id _ (by omega) (by omega)]; omega)
        obtain ⟨m0, m1, m2_⟩ := byte_mul (c.toNat - 128) w' (by omega) (by omega) (by omega)
        have m2 := Aside0.mk m2_
        clear m2_
        have hv := Aside0.mk (show wrap64 (n + (wrap64 (((c.toNat - 128 : Nat) : Int) * w'))) = n + ((c.toNat - 128 : Nat) : Int) * w' by
          rw [m2.out, wrap_id _ (by omega) (by omega)])
        have hwp1 := Aside0.mk (show wrap64 ((p : Int) + 1) = ((p + 1 : Nat) : Int) by rw [wrap_id _ (by omega) (by omega)]; omega)
        simp only [aquiferref04_Decode.l1]
        rw [if_pos g1, if_pos hwp.out, if_pos g2, if_pos g3, hcc.out, hv.out, hwp1.out]
        refine ih (p + 1) _ (w' * 128) _ (k + 2) (by omega) (by omega) (by omega) ?_ hnone hsome (by omega)
        intro hf1
        have hb2 : bnd (f + 1) = bnd f / 128 := rfl
        obtain ⟨g, rfl⟩ : ∃ g, f = g + 1 := ⟨f - 1, by omega⟩
        have hb3 := (bnd_le g).2
        exact ⟨wrap_id _ (by omega) (by omega), by omega, by omega, by omega, by omega⟩
    · have hnil : s.data.toList.drop p = [] := List.drop_of_length_le (by omega)
      rw [hnil] at hnone
      rw [hnone rfl]
      have hj := j2_out k s out (at_ : Int) n w' (p : Int) (tg : Int) (kd : Int) 0 ⟨#[]⟩ (.inl (by omega))
      simp only [aquiferref04_Decode.l1]
      rw [if_neg (show ¬ (p : Int) < (s.size : Int) by omega), hj]
end Go.Proofs.Ytinibpncbhmchaa.Q
