import Derived.Test.YtinibpncbhmchaaPE
import Derived.Test.YtinibpncbhmchaaHD5
namespace Go.Proofs.Ytinibpncbhmchaa.Q
open Go Go.RowKit Go.Proofs.YtinibpncbhmchaaW.PrintWords Go.Proofs.YtinibpncbhmchaaW.PrintLast Go.Proofs.YtinibpncbhmchaaW.PrintMore
set_option linter.unusedSimpArgs false
set_option linter.unusedVariables false
/-! ### Records and their bytes -/
def u8 (xs : List Int) : List UInt8 := xs.map fun n => UInt8.ofNat n.toNat
def fldU (f : S39) : List UInt8 := u8 (fldB f)
def flat (L : List S39) : List UInt8 := L.flatMap fldU
def valid : List S39 → Int → Prop
  | [], _ => True
  | f :: l, a => fault f a = 0 ∧ valid l f.f0
theorem u8_append (a b : List Int) : u8 (a ++ b) = u8 a ++ u8 b := List.map_append
theorem u8_len (a : List Int) : (u8 a).length = a.length := List.length_map _
theorem u8_cons (x : Int) (a : List Int) : u8 (x :: a) = UInt8.ofNat x.toNat :: u8 a := rfl
theorem u8_flat (L : List S39) : u8 (L.flatMap fldB) = flat L := by
  induction L with
  | nil => rfl
  | cons f l ih =>
    rw [List.flatMap_cons, u8_append, ih]
    rfl
theorem strOf (xs : List Int) : strOfNums xs = mkS (u8 xs) := rfl
theorem u8_bytes (s : ByteArray) : u8 (bytesOf s) = s.data.toList := by
  unfold u8 bytesOf
  rw [List.map_map]
  have : ((fun n : Int => UInt8.ofNat n.toNat) ∘ fun b : UInt8 => (b.toNat : Int)) = id := by
    funext b
    simp
  rw [this, List.map_id]
theorem flat_len (L : List S39) : (L.flatMap fldB).length = (flat L).length := by rw [← u8_flat, u8_len]
theorem enc_valid (L : List S39) : ∀ (a : Int) (b : List Int), valid L a → encGo L a b = if ((b.length + (flat L).length : Nat) : Int) > 65536 then (⟨#[]⟩, 3) else (mkS (u8 b ++ flat L), 0) := by
  induction L with
  | nil =>
    intro a b _
    unfold encGo
    simp only [flat, List.flatMap_nil, List.length_nil, Nat.add_zero, List.append_nil]
    rfl
  | cons f l ih =>
    intro a b hv
    rw [encGo, if_pos hv.1, ih f.f0 _ hv.2]
    have e1 : (b ++ fldB f).length + (flat l).length = b.length + (flat (f :: l)).length := by
      simp only [flat, List.flatMap_cons, List.length_append, fldU, u8_len]
      omega
    have e2 : u8 (b ++ fldB f) ++ flat l = u8 b ++ flat (f :: l) := by
      rw [u8_append, List.append_assoc]
      rfl
    rw [e1, e2]
theorem fault_cases (f : S39) (a : Int) (h : fault f a ≠ 0) : fault f a = 2 ∨ fault f a = 3 ∨ fault f a = 9 := by
  unfold fault at h ⊢
  split
  · exact .inl rfl
  · split
    · exact .inr (.inl rfl)
    · split
      · exact .inr (.inr rfl)
      · rename_i h1 h2 h3
        rw [if_neg h1, if_neg h2, if_neg h3] at h
        exact absurd rfl h
theorem enc_invalid (L : List S39) : ∀ (a : Int) (b : List Int), ¬ valid L a → ∃ e : Int, e ≠ 0 ∧ encGo L a b = (⟨#[]⟩, e) := by
  induction L with
  | nil => intro a b h; exact absurd trivial h
  | cons f l ih =>
    intro a b hv
    by_cases hf : fault f a = 0
    · rw [encGo, if_pos hf]
      exact ih _ _ (fun h => hv ⟨hf, h⟩)
    · rw [encGo, if_neg hf]
      exact ⟨_, hf, rfl⟩
/-- What is encoded is a valid record, and its bytes. -/
theorem enc_iff (L : List S39) (s : ByteArray) : encGo L 0 [] = (s, 0) ↔ valid L 0 ∧ (flat L).length ≤ 65536 ∧ s = mkS (flat L) := by
  by_cases hv : valid L 0
  · rw [enc_valid L 0 [] hv]
    simp only [List.length_nil, Nat.zero_add]
    by_cases hl : (flat L).length ≤ 65536
    · rw [if_neg (by omega)]
      constructor
      · intro h
        injection h with h1 h2
        exact ⟨hv, hl, h1.symm⟩
      · rintro ⟨_, _, rfl⟩
        rfl
    · rw [if_pos (by omega)]
      constructor
      · intro h
        injection h with h1 h2
        cases h2
      · rintro ⟨_, h, _⟩
        exact absurd h hl
  · obtain ⟨e, he, h⟩ := enc_invalid L 0 [] hv
    rw [h]
    constructor
    · intro h
      injection h with h1 h2
      exact absurd h2 he
    · rintro ⟨h, _⟩
      exact absurd h hv
/-! ### A number, read and written -/
theorem p128' : (128 : Nat) ^ (8 + 1) = 9223372036854775808 := by decide +kernel
theorem lt128' (m : Nat) (h : m ≤ 4611686018427387904) : m < 128 ^ (8 + 1) := by
  rw [p128']
  omega
theorem u8_of (n : Nat) (h : n < 256) : (UInt8.ofNat n).toNat = n := by simp [UInt8.toNat_ofNat']; omega
theorem lt128_iff (c : UInt8) : c < 128 ↔ c.toNat < 128 := by rw [UInt8.lt_iff_toNat_lt]; rfl
theorem numR_numU (j : Nat) : ∀ (m sh : Nat) (acc : Int) (t : List UInt8) (f : Nat), m < 128 ^ (j + 1) → j < f →
    numR f sh acc (u8 (numBf j m) ++ t) = ((acc + (m : Int) * 2 ^ sh, (decide (0 < m) || sh == 0) && decide (acc + (m : Int) * 2 ^ sh ≤ 4611686018427387904)), t) := by
  induction j with
  | zero =>
    intro m sh acc t f hm hf
    obtain ⟨f, rfl⟩ : ∃ g, f = g + 1 := ⟨f - 1, by omega⟩
    simp at hm
    have e : u8 (numBf 0 m) ++ t = UInt8.ofNat m :: t := rfl
    rw [e, numR_cons, u8_of m (by omega), if_pos (by rw [lt128_iff, u8_of m (by omega)]; exact hm)]
  | succ j ih =>
    intro m sh acc t f hm hf
    obtain ⟨f, rfl⟩ : ∃ g, f = g + 1 := ⟨f - 1, by omega⟩
    by_cases c : m < 128
    · have e : u8 (numBf (j + 1) m) ++ t = UInt8.ofNat m :: t := by
        unfold numBf
        rw [if_pos c]
        rfl
      rw [e, numR_cons, u8_of m (by omega), if_pos (by rw [lt128_iff, u8_of m (by omega)]; exact c)]
    · have e : u8 (numBf (j + 1) m) ++ t = UInt8.ofNat (128 + m % 128) :: (u8 (numBf j (m / 128)) ++ t) := by
        conv => lhs; unfold numBf
        rw [if_neg c]
        rfl
      have hd : m / 128 < 128 ^ (j + 1) := by rw [Nat.pow_succ] at hm; exact Nat.div_lt_of_lt_mul (by rw [Nat.mul_comm]; exact hm)
      rw [e, numR_cons, if_neg (by rw [lt128_iff, u8_of _ (by omega)]; omega), u8_of _ (by omega), ih (m / 128) (sh + 7) _ t f hd (by omega)]
      have hval : acc + (((128 + m % 128) % 128 : Nat) : Int) * 2 ^ sh + ((m / 128 : Nat) : Int) * 2 ^ (sh + 7) = acc + (m : Int) * 2 ^ sh := by
        have hm2 : (m : Int) = ((m % 128 : Nat) : Int) + 128 * ((m / 128 : Nat) : Int) := by omega
        rw [show (128 + m % 128) % 128 = m % 128 by omega, Int.pow_add, Int.add_assoc]
        congr 1
        conv => rhs; rw [hm2]
        rw [Int.add_mul]
        congr 1
        rw [show (2 : Int) ^ 7 = 128 by decide, Int.mul_comm ((2 : Int) ^ sh) 128, ← Int.mul_assoc, Int.mul_comm 128]
      rw [hval]
      have h1 : decide (0 < m / 128) = true := decide_eq_true (by omega)
      have h2 : decide (0 < m) = true := decide_eq_true (by omega)
      rw [h1, h2]
      rfl
theorem numR_sound (f : Nat) : ∀ (sh : Nat) (acc v : Int) (l rest : List UInt8), numR f sh acc l = ((v, true), rest) → ∃ m : Nat, v = acc + (m : Int) * 2 ^ sh ∧ l = u8 (numBf (f - 1) m) ++ rest ∧ m < 128 ^ f ∧ (0 < m ∨ sh = 0) ∧ v ≤ 4611686018427387904 := by
  induction f with
  | zero =>
    intro sh acc v l rest h
    injection h with h _
    injection h with _ h
    cases h
  | succ f ih =>
    intro sh acc v l rest h
    cases l with
    | nil =>
      rw [numR_nil] at h
      injection h with h _
      injection h with _ h
      cases h
    | cons c t =>
      rw [numR_cons] at h
      by_cases hc : c < 128
      · rw [if_pos hc] at h
        injection h with h h3
        injection h with h1 h2
        rw [Bool.and_eq_true, Bool.or_eq_true] at h2
        have hc' := (lt128_iff c).1 hc
        have hn : ∀ j, u8 (numBf j c.toNat) = [c] := by
          intro j
          have : UInt8.ofNat ((c.toNat : Int)).toNat = c := by simp
          cases j with
          | zero => show [UInt8.ofNat ((c.toNat : Int)).toNat] = [c]; rw [this]
          | succ j => unfold numBf; rw [if_pos hc']; show [UInt8.ofNat ((c.toNat : Int)).toNat] = [c]; rw [this]
        refine ⟨c.toNat, h1.symm, by rw [hn, h3]; rfl, ?_, ?_, ?_⟩
        · rw [Nat.pow_succ]
          have := Nat.pow_pos (n := f) (show 0 < 128 by decide)
          omega
        · rcases h2.1 with h | h
          · exact .inl (of_decide_eq_true h)
          · exact .inr (by simpa using h)
        · rw [← h1]
          exact of_decide_eq_true h2.2
      · rw [if_neg hc] at h
        obtain ⟨m, hv, ht, hm, h0, hmax⟩ := ih _ _ _ _ _ h
        have hc' : 128 ≤ c.toNat := by rw [lt128_iff] at hc; omega
        have hc2 := c.toNat_lt
        have hm0 : 0 < m := by omega
        cases f with
        | zero =>
          injection h with h _
          injection h with _ h
          cases h
        | succ f =>
          refine ⟨c.toNat % 128 + 128 * m, ?_, ?_, ?_, .inl (by omega), hmax⟩
          · rw [hv]
            have : ((c.toNat % 128 + 128 * m : Nat) : Int) = ((c.toNat % 128 : Nat) : Int) + 128 * (m : Int) := by omega
            rw [this, Int.add_mul, Int.pow_add, Int.add_assoc]
            congr 2
            rw [show (2 : Int) ^ 7 = 128 by decide, Int.mul_comm ((2 : Int) ^ sh) 128, ← Int.mul_assoc, Int.mul_comm 128]
          · rw [ht]
            show c :: (u8 (numBf f m) ++ rest) = u8 (numBf (f + 1) (c.toNat % 128 + 128 * m)) ++ rest
            have e : numBf (f + 1) (c.toNat % 128 + 128 * m) = (c.toNat : Int) :: numBf f m := by
              unfold numBf
              rw [if_neg (by omega), show (c.toNat % 128 + 128 * m) / 128 = m by omega, show 128 + (c.toNat % 128 + 128 * m) % 128 = c.toNat by omega]
              cases f <;> rfl
            rw [e, u8_cons]
            simp
          · rw [Nat.pow_succ]
            omega
/-! ### A field, read and written -/
theorem bad_iff (f : S39) : ¬ bad f ↔ 1 ≤ f.f0 ∧ f.f0 ≤ 63 ∧ ((f.f1 = 0 ∧ f.f3.toList = [] ∧ 0 ≤ f.f2 ∧ f.f2 ≤ 4611686018427387904) ∨ (f.f1 = 1 ∧ f.f2 = 0)) := by
  unfold bad
  constructor
  · intro h
    refine ⟨by omega, by omega, ?_⟩
    apply Classical.byContradiction
    intro h2
    exact h (.inr (.inr h2))
  · rintro ⟨h1, h2, h3⟩ (h | h | h)
    · omega
    · omega
    · exact h h3
theorem mkS_data (s : ByteArray) : mkS s.data.toList = s := rfl
theorem toList_mk {s : ByteArray} (h : s.toList = []) : s = mkS [] := by
  rw [ByteArray.toList_eq] at h
  rw [← mkS_data s, h]
theorem fldR_fldU (f : S39) (t : List UInt8) (hb : ¬ bad f) (hs : (f.f3.size : Int) ≤ 4096) : fldR (fldU f ++ t) = ((f, true), t) := by
  obtain ⟨h1, h2, h3⟩ := (bad_iff f).1 hb
  obtain ⟨tg, kd, n, s⟩ := f
  simp only at h1 h2 h3 hs
  rcases h3 with ⟨rfl, hs0, hn0, hn1⟩ | ⟨rfl, rfl⟩
  · obtain ⟨m, rfl⟩ := Int.eq_ofNat_of_zero_le hn0
    obtain rfl := toList_mk hs0
    have e : fldU (⟨tg, 0, (m : Int), mkS []⟩ : S39) ++ t = UInt8.ofNat (2 * tg + 0).toNat :: (u8 (numBf 9 m) ++ t) := by
      simp only [fldU, fldB, u8_cons, List.cons_append, Int.toNat_natCast, numB, if_pos]
    have hc : (UInt8.ofNat (2 * tg + 0).toNat).toNat = (2 * tg + 0).toNat := u8_of _ (by omega)
    have hnum := numR_numU 8 m 0 0 t 9 (lt128' m (by omega)) (by omega)
    rw [← numBf_more 8 m (lt128' m (by omega))] at hnum
    rw [e, fldR_eq (UInt8.ofNat (2 * tg + 0).toNat :: (u8 (numBf 9 m) ++ t)) (UInt8.ofNat (2 * tg + 0).toNat) _ _ _ rfl hnum]
    simp only [hc]
    have hq : (2 * tg + 0).toNat / 2 = tg.toNat := by omega
    have hr : (2 * tg + 0).toNat % 2 = 0 := by omega
    rw [hq, hr, if_neg (by
      rintro (h | h | h)
      · simp at h; omega
      · omega
      · omega), if_pos (show ((0 : Nat) : Int) = 0 from rfl)]
    simp
    omega
  · have e : fldU (⟨tg, 1, 0, s⟩ : S39) ++ t = UInt8.ofNat (2 * tg + 1).toNat :: (u8 (numBf 9 s.size) ++ (s.data.toList ++ t)) := by
      simp only [fldU, fldB, u8_cons, List.cons_append, numB, u8_append, u8_bytes, List.append_assoc]
      rw [if_neg (by decide), u8_append, u8_bytes, List.append_assoc]
    have hc : (UInt8.ofNat (2 * tg + 1).toNat).toNat = (2 * tg + 1).toNat := u8_of _ (by omega)
    have hnum := numR_numU 8 s.size 0 0 (s.data.toList ++ t) 9 (lt128' _ (by omega)) (by omega)
    rw [← numBf_more 8 s.size (lt128' _ (by omega))] at hnum
    rw [e, fldR_eq (UInt8.ofNat (2 * tg + 1).toNat :: (u8 (numBf 9 s.size) ++ (s.data.toList ++ t))) (UInt8.ofNat (2 * tg + 1).toNat) _ _ _ rfl hnum]
    simp only [hc]
    have hq : (2 * tg + 1).toNat / 2 = tg.toNat := by omega
    have hr : (2 * tg + 1).toNat % 2 = 1 := by omega
    have hsl : s.data.toList.length = s.size := by simp
    rw [hq, hr, if_neg (by
      rintro (h | h | h)
      · simp at h; omega
      · omega
      · omega), if_neg (show ¬ ((1 : Nat) : Int) = 0 by decide), if_neg (by
      rw [List.length_append, hsl]
      simp
      omega)]
    have h0 : ((0 : Int) + (s.size : Int) * 2 ^ 0).toNat = s.data.toList.length := by rw [hsl]; simp
    rw [h0, List.take_left, List.drop_left, mkS_data]
    have : ((tg.toNat : Nat) : Int) = tg := by omega
    rw [this]
    rfl
theorem fldR_sound (c : UInt8) (l rest : List UInt8) (f : S39) (h : fldR (c :: l) = ((f, true), rest)) : ¬ bad f ∧ (f.f3.size : Int) ≤ 4096 ∧ c :: l = fldU f ++ rest := by
  obtain ⟨n, ok, r, hn⟩ : ∃ n ok r, numR 9 0 0 l = ((n, ok), r) := ⟨_, _, _, rfl⟩
  rw [fldR_eq (c :: l) c n ok r rfl hn] at h
  have hc := c.toNat_lt
  by_cases c1 : ok = false ∨ ((c.toNat / 2 : Nat) : Int) < 1 ∨ ((c.toNat / 2 : Nat) : Int) > 63
  · rw [if_pos c1] at h
    injection h with h _
    injection h with _ h
    cases h
  · rw [if_neg c1] at h
    have hok : ok = true := by
      cases ok with
      | true => rfl
      | false => exact absurd (.inl rfl) c1
    subst hok
    obtain ⟨m, hv, hl, hm, _, hmax⟩ := numR_sound 9 0 0 n l r hn
    have hnm : n = (m : Int) := by rw [hv]; simp
    subst hnm
    have hmm : m < 128 ^ (8 + 1) := hm
    have hl' : l = u8 (numB m) ++ r := by
      rw [hl]
      unfold numB
      rw [numBf_more 8 m hmm]
    have hcc : UInt8.ofNat c.toNat = c := by simp
    by_cases c2 : ((c.toNat % 2 : Nat) : Int) = 0
    · rw [if_pos c2] at h
      injection h with h h3
      injection h with h h4
      subst h h3
      refine ⟨(bad_iff _).2 ⟨?_, ?_, .inl ⟨c2, by rw [toList_mkS], ?_, ?_⟩⟩, ?_, ?_⟩
      · simp only; omega
      · simp only; omega
      · simp only; omega
      · simp only; omega
      · show ((mkS []).size : Int) ≤ 4096; decide
      · rw [hl']
        unfold fldU fldB
        rw [if_pos c2, u8_cons, show (2 * ((c.toNat / 2 : Nat) : Int) + ((c.toNat % 2 : Nat) : Int)).toNat = c.toNat by omega, hcc]
        simp
    · rw [if_neg c2] at h
      by_cases c3 : (m : Int) > (r.length : Int) ∨ (m : Int) > 4096
      · rw [if_pos c3] at h
        injection h with h _
        injection h with _ h
        cases h
      · rw [if_neg c3] at h
        injection h with h h3
        injection h with h h4
        subst h h3
        have hsz : (mkS (List.take (m : Int).toNat r)).size = m := by rw [size_mkS, List.length_take]; omega
        refine ⟨(bad_iff _).2 ⟨?_, ?_, .inr ⟨?_, rfl⟩⟩, ?_, ?_⟩
        · simp only; omega
        · simp only; omega
        · simp only; omega
        · simp only [hsz]; omega
        · rw [hl']
          unfold fldU fldB
          rw [if_neg c2, u8_cons, u8_append, u8_bytes, hsz, show (2 * ((c.toNat / 2 : Nat) : Int) + ((c.toNat % 2 : Nat) : Int)).toNat = c.toNat by omega, hcc]
          show _ = c :: (_ ++ List.take _ _ ++ List.drop _ _)
          rw [List.append_assoc, List.take_append_drop]
/-! ### A record, read and written -/
theorem fldU_ne (f : S39) : ∃ c l, fldU f = c :: l := ⟨_, _, rfl⟩
theorem decR_flat (L : List S39) : ∀ (k : Nat) (a : Int) (out : List S39), valid L a → (flat L).length < k → decR k a out (flat L) = (out ++ L, 0) := by
  induction L with
  | nil =>
    intro k a out _ hk
    obtain ⟨k, rfl⟩ : ∃ m, k = m + 1 := ⟨k - 1, by omega⟩
    rw [show flat [] = [] from rfl, decR_nil, List.append_nil]
  | cons f l ih =>
    intro k a out hv hk
    obtain ⟨k, rfl⟩ : ∃ m, k = m + 1 := ⟨k - 1, by omega⟩
    obtain ⟨hb, hs, ha⟩ := fault_ok hv.1
    have hr := fldR_fldU f (flat l) hb hs
    obtain ⟨c, t, hc⟩ := fldU_ne f
    have e : flat (f :: l) = c :: (t ++ flat l) := by
      show fldU f ++ flat l = _
      rw [hc]
      rfl
    rw [hc] at hr
    rw [e] at hk ⊢
    rw [decR_cons]
    rw [List.cons_append] at hr
    rw [hr, if_neg (by rintro (h | h); cases h; simp only at h; omega)]
    simp only
    rw [ih k f.f0 _ hv.2 (by simp at hk; omega), List.append_assoc]
    rfl
theorem decR_sound (k : Nat) : ∀ (a : Int) (out L : List S39) (l : List UInt8), decR k a out l = (L, 0) → ∃ M, L = out ++ M ∧ valid M a ∧ l = flat M := by
  induction k with
  | zero =>
    intro a out L l h
    injection h with _ h
    cases h
  | succ k ih =>
    intro a out L l h
    cases l with
    | nil =>
      rw [decR_nil] at h
      injection h with h _
      exact ⟨[], by simp [h], trivial, rfl⟩
    | cons c t =>
      rw [decR_cons] at h
      obtain ⟨f, ok, rest, hq⟩ : ∃ f ok rest, fldR (c :: t) = ((f, ok), rest) := ⟨_, _, _, rfl⟩
      rw [hq] at h
      simp only at h
      by_cases c1 : ok = false ∨ f.f0 < a
      · rw [if_pos c1] at h
        injection h with _ h
        cases h
      · rw [if_neg c1] at h
        have hok : ok = true := by
          cases ok with
          | true => rfl
          | false => exact absurd (.inl rfl) c1
        subst hok
        obtain ⟨hb, hs, hl⟩ := fldR_sound c t rest f hq
        obtain ⟨M, hM, hv, hr⟩ := ih _ _ _ _ h
        refine ⟨f :: M, by rw [hM, List.append_assoc]; rfl, ⟨?_, hv⟩, by rw [hl, hr]; rfl⟩
        unfold fault
        rw [if_neg hb, if_neg (by omega), if_neg (fun h => c1 (.inr h))]
theorem decR_total (k : Nat) : ∀ (a : Int) (out : List S39) (l : List UInt8), (decR k a out l).2 = 0 ∨ decR k a out l = ([], 5) := by
  induction k with
  | zero => intro a out l; exact .inr rfl
  | succ k ih =>
    intro a out l
    cases l with
    | nil => exact .inl rfl
    | cons c t =>
      rw [decR_cons]
      split
      · exact .inr rfl
      · exact ih _ _ _
/-- What the bytes are decoded as: the record that has them, or none. -/
def decS (s : ByteArray) : List S39 × Int := if s.size > 65536 then ([], 5) else decR (s.size + 1) 0 [] s.data.toList
theorem dec_fn (s : ByteArray) : field_Decode.f s = some (decS s) := rfl
theorem decS_iff (s : ByteArray) (L : List S39) : decS s = (L, 0) ↔ valid L 0 ∧ (flat L).length ≤ 65536 ∧ s = mkS (flat L) := by
  unfold decS
  have hsl : s.data.toList.length = s.size := by simp
  by_cases hs : s.size > 65536
  · rw [if_pos hs]
    constructor
    · intro h
      injection h with _ h
      cases h
    · rintro ⟨_, h, rfl⟩
      rw [size_mkS] at hs
      omega
  · rw [if_neg hs]
    constructor
    · intro h
      obtain ⟨M, hM, hv, hl⟩ := decR_sound _ _ _ _ _ h
      rw [List.nil_append] at hM
      subst hM
      exact ⟨hv, by rw [← hl]; omega, by rw [← hl, mkS_data]⟩
    · rintro ⟨hv, hl, rfl⟩
      rw [data_mkS, size_mkS, decR_flat L _ 0 [] hv (by omega), List.nil_append]
theorem decS_total (s : ByteArray) : (decS s).2 = 0 ∨ decS s = ([], 5) := by
  unfold decS
  split
  · exact .inr rfl
  · exact decR_total _ _ _ _
/-- Encoding and decoding are each other's. -/
theorem dec_enc (L : List S39) (s : ByteArray) : decS s = (L, 0) ↔ encGo L 0 [] = (s, 0) := by rw [decS_iff, enc_iff]
end Go.Proofs.Ytinibpncbhmchaa.Q
