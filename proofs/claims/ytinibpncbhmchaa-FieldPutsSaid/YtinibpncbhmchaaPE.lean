import Derived.Test.YtinibpncbhmchaaOpenQ
import Derived.Test.YtinibpncbhmchaaPF
import Derived.Test.YtinibpncbhmchaaQ2
import Derived.Test.YtinibpncbhmchaaQ5
import Derived.Test.YtinibpncbhmchaaQ8
import Derived.Test.YtinibpncbhmchaaQ10
namespace Go.Proofs.Ytinibpncbhmchaa.Q
open Go Go.RowKit Go.Proofs.YtinibpncbhmchaaW.PrintWords Go.Proofs.YtinibpncbhmchaaW.PrintLast Go.Proofs.YtinibpncbhmchaaW.PrintMore
set_option linter.unusedSimpArgs false
set_option linter.unusedVariables false
/-! ### What a record's bytes are. -/
def bad (f : S39) : Prop := f.f0 < 1 ∨ f.f0 > 63 ∨ ¬ ((f.f1 = 0 ∧ f.f3.toList = [] ∧ 0 ≤ f.f2 ∧ f.f2 ≤ 4611686018427387904) ∨ (f.f1 = 1 ∧ f.f2 = 0))
instance (f : S39) : Decidable (bad f) := by unfold bad; infer_instance
def fault (f : S39) (ahead : Int) : Int := if bad f then 2 else if (f.f3.size : Int) > 4096 then 3 else if f.f0 < ahead then 9 else 0
def numBf : Nat → Nat → List Int
  | 0, n => [(n : Int)]
  | j + 1, n => if n < 128 then [(n : Int)] else ((128 + n % 128 : Nat) : Int) :: numBf j (n / 128)
def numB (n : Nat) : List Int := numBf 9 n
def fldB (f : S39) : List Int := (2 * f.f0 + f.f1) :: (if f.f1 = 0 then numB f.f2.toNat else numB f.f3.size ++ bytesOf f.f3)
def encGo : List S39 → Int → List Int → ByteArray × Int
  | [], _, b => if (b.length : Int) > 65536 then (⟨#[]⟩, 3) else (strOfNums b, 0)
  | f :: l, ahead, b => if fault f ahead = 0 then encGo l f.f0 (b ++ fldB f) else (⟨#[]⟩, fault f ahead)
theorem numBf_len (j n : Nat) : (numBf j n).length ≤ j + 1 := by
  induction j generalizing n with
  | zero => exact Nat.le_refl _
  | succ j ih =>
    unfold numBf
    split
    · simp
    · have := ih (n / 128)
      simp
      omega
theorem numB_len (n : Nat) : (numB n).length ≤ 10 := numBf_len 9 n
theorem numBf_more (j n : Nat) (h : n < 128 ^ (j + 1)) : numBf (j + 1) n = numBf j n := by
  induction j generalizing n with
  | zero =>
    simp at h
    show (if n < 128 then _ else _) = _
    rw [if_pos h]
    rfl
  | succ j ih =>
    show (if n < 128 then [(n : Int)] else ((128 + n % 128 : Nat) : Int) :: numBf (j + 1) (n / 128)) = (if n < 128 then [(n : Int)] else ((128 + n % 128 : Nat) : Int) :: numBf j (n / 128))
    rw [ih (n / 128) (by rw [Nat.pow_succ] at h; exact Nat.div_lt_of_lt_mul (by rw [Nat.mul_comm]; exact h))]
theorem fldB_len (f : S39) (h : (f.f3.size : Int) ≤ 4096) : (fldB f).length ≤ 4107 := by
  unfold fldB
  have h1 := numB_len f.f2.toNat
  have h2 := numB_len f.f3.size
  split
  · simp; omega
  · rw [List.length_cons, List.length_append, bytesOf_length]
    omega
theorem fault_ok {f : S39} {ahead : Int} (h : fault f ahead = 0) : ¬ bad f ∧ (f.f3.size : Int) ≤ 4096 ∧ ahead ≤ f.f0 := by
  unfold fault at h
  split at h
  · cases h
  · split at h
    · cases h
    · split at h
      · cases h
      · exact ⟨by assumption, by omega, by omega⟩
/-! ### field.why, field.num -/
theorem toList_nil (s : ByteArray) : s.toList = [] ↔ s.size = 0 := by
  rw [ByteArray.toList_eq]
  constructor
  · intro h
    have : s.data.toList.length = 0 := by rw [h]; rfl
    simpa using this
  · intro h
    apply List.eq_nil_of_length_eq_zero
    simpa using h
theorem why_ok (k : Nat) (f : S39) (ahead : Int) : field_why.f (k + 3) f.f0 f.f1 f.f2 f.f3 ahead = some (fault f ahead) := by
  obtain ⟨t, kd, n, s⟩ := f
  simp only [field_why.f, field_why.j0, field_why.j1, field_why.j2, fault, bad]
  by_cases c1 : kd = 0
  · subst c1
    by_cases c2 : s.toList = []
    · by_cases c3 : n ≥ 0
      · by_cases c4 : n ≤ 4611686018427387904
        · by_cases c5 : t < 1
          · simp [c2, c3, c4, c5]
          · by_cases c6 : t > 63
            · simp [c2, c3, c4, c5, c6]
            · simp [c2, c3, c4, c5, c6]
              split <;> first | rfl | (split <;> rfl)
        · by_cases c5 : t < 1
          · simp [c2, c3, c4, c5]
          · by_cases c6 : t > 63 <;> simp [c2, c3, c4, c5, c6]
      · by_cases c5 : t < 1
        · simp [c2, c3, c5]
        · by_cases c6 : t > 63 <;> simp [c2, c3, c5, c6]
    · by_cases c5 : t < 1
      · simp [c2, c5]
      · by_cases c6 : t > 63 <;> simp [c2, c5, c6]
  · by_cases c2 : kd = 1
    · subst c2
      by_cases c3 : n = 0
      · subst c3
        by_cases c5 : t < 1
        · simp [c5]
        · by_cases c6 : t > 63
          · simp [c5, c6]
          · simp [c5, c6]
            split <;> first | rfl | (split <;> rfl)
      · by_cases c5 : t < 1
        · simp [c3, c5]
        · by_cases c6 : t > 63 <;> simp [c3, c5, c6]
    · by_cases c5 : t < 1
      · simp [c1, c2, c5]
      · by_cases c6 : t > 63 <;> simp [c1, c2, c5, c6]
theorem or128 (n : Nat) : bits .or .u8 ((n : Int) % 256) 128 = ((128 + n % 128 : Nat) : Int) := by
  have e : ((n : Int) % 256) = ((n % 256 : Nat) : Int) := by simp
  have h1 : n % 256 < 2 ^ 8 := Nat.mod_lt _ (by decide)
  have h := (bits_nat .u8 8 (by decide) (fun m h0 h1 => by rw [IntKind.wrap_u8]; omega) (n % 256) 128 h1 (by decide)).2
  have hd : ∀ a : Fin 256, a.val ||| 128 = 128 + a.val % 128 := by decide +kernel
  rw [e]
  have h2 := hd ⟨n % 256, h1⟩
  simp only at h2
  rw [h2] at h
  rw [show n % 128 = n % 256 % 128 by omega]
  exact h
theorem num_ok (j : Nat) : ∀ (n : Nat) (x : List Int) (k : Nat), n < 128 ^ (j + 1) → j < k → x.length + j + 1 < 140737488355328 → field_num.l0 k x (n : Int) = some (x ++ numBf j n) := by
  induction j with
  | zero =>
    intro n x k hn hk hx
    obtain ⟨k, rfl⟩ : ∃ m, k = m + 1 := ⟨k - 1, by omega⟩
    simp at hn
    simp only [field_num.l0, numBf]
    rw [if_neg (by omega), if_pos (by omega), Int.emod_eq_of_lt (by omega) (by omega)]
  | succ j ih =>
    intro n x k hn hk hx
    obtain ⟨k, rfl⟩ : ∃ m, k = m + 1 := ⟨k - 1, by omega⟩
    simp only [field_num.l0, numBf]
    by_cases c : n < 128
    · rw [if_neg (by omega), if_pos (by omega), if_pos c, Int.emod_eq_of_lt (by omega) (by omega)]
    · rw [if_pos (by omega), if_pos (by omega), if_neg c, or128, show ((n : Int) / 128) = ((n / 128 : Nat) : Int) by simp,
        ih (n / 128) _ k (by rw [Nat.pow_succ] at hn; exact Nat.div_lt_of_lt_mul (by rw [Nat.mul_comm]; exact hn)) (by omega) (by simp; omega)]
      simp
theorem p128 : (128 : Nat) ^ (9 + 1) = 1180591620717411303424 := by decide +kernel
theorem lt128 (m : Nat) (h : m ≤ 4611686018427387904) : m < 128 ^ (9 + 1) := by
  rw [p128]
  omega
theorem num_fn (k : Nat) (hk : 10 ≤ k) (n : Int) (h0 : 0 ≤ n) (hn : n ≤ 4611686018427387904) (x : List Int) (hx : x.length + 10 < 140737488355328) : field_num.f k x n = some (x ++ numB n.toNat) := by
  obtain ⟨m, rfl⟩ := Int.eq_ofNat_of_zero_le h0
  exact num_ok 9 m x k (lt128 m (by omega)) (by omega) (by omega)
theorem number_ok (j : Nat) : ∀ (n : Nat) (k : Nat), n < 128 ^ (j + 1) → n < 9223372036854775807 → j < 20 → j < k → aquiferref04_number.f k (n : Int) = some (numBf j n) := by
  induction j with
  | zero =>
    intro n k hn h63 hj hk
    obtain ⟨k, rfl⟩ : ∃ m, k = m + 1 := ⟨k - 1, by omega⟩
    simp at hn
    simp only [aquiferref04_number.f, numBf]
    rw [if_pos (by omega), Int.emod_eq_of_lt (by omega) (by omega)]
  | succ j ih =>
    intro n k hn h63 hj hk
    obtain ⟨k, rfl⟩ : ∃ m, k = m + 1 := ⟨k - 1, by omega⟩
    simp only [aquiferref04_number.f, numBf]
    by_cases c : n < 128
    · rw [if_pos (by omega), if_pos c, Int.emod_eq_of_lt (by omega) (by omega)]
    · have e1 : (wrap64 (128 + (n : Int).tmod 128)) % 256 = ((128 + n % 128 : Nat) : Int) := by
        rw [Int.tmod_eq_emod_of_nonneg (by omega)]
        unfold wrap64
        omega
      have e2 : wrap64 ((n : Int).tdiv 128) = ((n / 128 : Nat) : Int) := by
        rw [Int.tdiv_eq_ediv_of_nonneg (by omega)]
        unfold wrap64
        omega
      have hl := numBf_len j (n / 128)
      rw [if_neg (by omega), if_neg c, e1, e2, Option.bind_some, ih (n / 128) k (by rw [Nat.pow_succ] at hn; exact Nat.div_lt_of_lt_mul (by rw [Nat.mul_comm]; exact hn)) (by omega) (by omega) (by omega), Option.bind_some, if_pos (by simp; omega)]
      rfl
theorem number_fn (k : Nat) (hk : 10 ≤ k) (n : Int) (h0 : 0 ≤ n) (hn : n ≤ 4611686018427387904) : aquiferref04_number.f k n = some (numB n.toNat) := by
  obtain ⟨m, rfl⟩ := Int.eq_ofNat_of_zero_le h0
  exact number_ok 9 m k (lt128 m (by omega)) (by omega) (by omega) (by omega)
theorem head_byte {f : S39} (h : ¬ bad f) : (wrap64 ((wrap64 (2 * f.f0)) + f.f1)) % 256 = 2 * f.f0 + f.f1 := by
  unfold bad at h
  unfold wrap64
  omega
theorem bytes_fn (k : Nat) (hk : 10 ≤ k) (f : S39) (h : ¬ bad f) (hs : (f.f3.size : Int) ≤ 4096) : aquiferref04_bytes.f k f.f0 f.f1 f.f2 f.f3 = some (fldB f) := by
  have hb := head_byte h
  unfold bad at h
  unfold aquiferref04_bytes.f fldB
  rw [hb, Option.bind_some]
  have h1 := numB_len f.f2.toNat
  have h2 := numB_len f.f3.size
  by_cases c : f.f1 = 0
  · rw [if_pos c, if_pos c, number_fn k hk _ (by omega) (by omega), Option.bind_some, if_pos (by simp; omega)]
    rfl
  · rw [if_neg c, if_neg c, number_fn k hk _ (by omega) (by omega), Option.bind_some, Int.toNat_natCast, if_pos (by simp; omega), Option.bind_some, if_pos (by simp; omega)]
    rfl
/-! ### The loops -/
theorem rd_at (L : List S39) (i : Nat) (h : i < L.length) : rd_T39 L (i : Int) = L[i] := by simp [rd_T39, h]
theorem wrap_succ (i : Nat) (h : i < 9223372036854775807) : wrap64 ((i : Int) + 1) = ((i + 1 : Nat) : Int) := by unfold wrap64; omega
theorem drop_at (L : List S39) (i : Nat) (h : i < L.length) : L.drop i = L[i] :: L.drop (i + 1) := List.drop_eq_getElem_cons h
theorem enc_loop (L : List S39) (hL : L.length ≤ 1048576) (d : Nat) : ∀ (i : Nat) (b : List Int) (ahead : Int) (k : Nat), i + d = L.length → d + 12 ≤ k → b.length + d * 5000 ≤ 10000000000 →
    field_Encode.l0 k b ahead L (L.length : Int) (i : Int) = some (encGo (L.drop i) ahead b) := by
  induction d with
  | zero =>
    intro i b ahead k hi hk hb
    obtain ⟨k, rfl⟩ : ∃ m, k = m + 1 := ⟨k - 1, by omega⟩
    simp only [field_Encode.l0]
    rw [if_neg (by omega), List.drop_of_length_le (by omega)]
    unfold encGo
    split <;> rfl
  | succ d ih =>
    intro i b ahead k hi hk hb
    obtain ⟨k, rfl⟩ : ∃ m, k = m + 1 := ⟨k - 1, by omega⟩
    have hlt : i < L.length := by omega
    simp only [field_Encode.l0]
    rw [if_pos (by omega), if_pos (by omega), if_pos (by omega), rd_at L i hlt, drop_at L i hlt]
    generalize L[i] = f
    obtain ⟨k3, hk3⟩ : ∃ m, k = m + 3 := ⟨k - 3, by omega⟩
    rw [show field_why.f k f.f0 f.f1 f.f2 f.f3 ahead = some (fault f ahead) by rw [hk3]; exact why_ok k3 f ahead, Option.bind_some]
    by_cases c : fault f ahead = 0
    · obtain ⟨hbad, hs, _⟩ := fault_ok c
      rw [if_pos c, if_pos (by omega), Option.bind_some, head_byte hbad]
      have hb' := hbad
      unfold bad at hb'
      have h1 := numB_len f.f2.toNat
      have h2 := numB_len f.f3.size
      have h3 := fldB_len f hs
      have hg : encGo (f :: L.drop (i + 1)) ahead b = encGo (L.drop (i + 1)) f.f0 (b ++ fldB f) := by rw [encGo, if_pos c]
      rw [hg]
      by_cases c2 : f.f1 = 0
      · rw [if_pos c2, num_fn k (by omega) _ (by omega) (by omega) _ (by simp; omega), Option.bind_some, wrap_succ i (by omega)]
        have e : b ++ [2 * f.f0 + f.f1] ++ numB f.f2.toNat = b ++ fldB f := by unfold fldB; rw [if_pos c2]; simp
        rw [e]
        exact ih (i + 1) _ _ k (by omega) (by omega) (by rw [List.length_append]; omega)
      · rw [if_neg c2, num_fn k (by omega) _ (by omega) (by omega) _ (by simp; omega), Option.bind_some, Int.toNat_natCast, if_pos (by simp; omega), wrap_succ i (by omega)]
        have e : b ++ [2 * f.f0 + f.f1] ++ numB f.f3.size ++ bytesOf f.f3 = b ++ fldB f := by unfold fldB; rw [if_neg c2]; simp
        rw [e]
        exact ih (i + 1) _ _ k (by omega) (by omega) (by rw [List.length_append]; omega)
    · rw [if_neg c, encGo, if_neg c]
theorem enc_fn (L : List S39) (hL : L.length ≤ 1048576) (k : Nat) (hk : L.length + 12 ≤ k) : field_Encode.f k L = some (encGo L 0 []) := by
  have := enc_loop L hL L.length 0 [] 0 k (by omega) hk (by simp; omega)
  simpa [field_Encode.f] using this
/-- The reference's look at a field. -/
theorem ref_head (k : Nat) (L : List S39) (b : List Int) (i : Nat) (hlt : i < L.length) : aquiferref04_Encode.l0 (k + 1) L b (i : Int) = aquiferref04_Encode.j1 k L b (i : Int) (decide (bad L[i])) L[i].f0 L[i].f1 L[i].f2 L[i].f3 := by
  simp only [aquiferref04_Encode.l0]
  rw [if_pos (by omega), if_pos (by omega), rd_at L i hlt]
  generalize L[i] = f
  obtain ⟨t, kd, n, s⟩ := f
  simp only
  by_cases c1 : t < 1
  · rw [if_pos c1]; congr 1; symm; simp [bad, c1]
  · rw [if_neg c1]
    by_cases c2 : t > 63
    · rw [if_pos c2]; congr 1; symm; simp [bad, c2]
    · rw [if_neg c2]
      by_cases c3 : kd < 0
      · rw [if_pos c3]; congr 1; symm; simp [bad]; omega
      · rw [if_neg c3]
        by_cases c4 : kd > 1
        · rw [if_pos c4]; congr 1; symm; simp [bad]; omega
        · rw [if_neg c4]
          by_cases c5 : n < 0
          · rw [if_pos c5]; congr 1; symm; simp [bad]; omega
          · rw [if_neg c5]
            by_cases c6 : n > 4611686018427387904
            · rw [if_pos c6]; congr 1; symm; simp [bad]; omega
            · rw [if_neg c6]
              by_cases c7 : kd = 0
              · subst c7
                rw [if_pos rfl]
                by_cases c8 : s.toList = []
                · rw [if_pos c8, if_neg (by decide)]; congr 1; symm; simp [bad, c8]; omega
                · rw [if_neg c8]; congr 1; symm; simp [bad, c8]
              · rw [if_neg c7]
                have c9 : kd = 1 := by omega
                subst c9
                rw [if_pos rfl]
                congr 1
                by_cases c10 : n = 0
                · subst c10; simp [bad]; omega
                · simp [bad, c10]
theorem ref_loop (L : List S39) (hL : L.length ≤ 1048576) (d : Nat) : ∀ (i : Nat) (b : List Int) (ahead : Int) (k : Nat), i + d = L.length → 2 * d + 12 ≤ k → b.length + d * 5000 ≤ 10000000000 →
    (ahead = if h : 0 < i ∧ i - 1 < L.length then L[i - 1].f0 else 0) →
    aquiferref04_Encode.l0 k L b (i : Int) = some (encGo (L.drop i) ahead b) := by
  induction d with
  | zero =>
    intro i b ahead k hi hk hb ha
    obtain ⟨k, rfl⟩ : ∃ m, k = m + 1 := ⟨k - 1, by omega⟩
    simp only [aquiferref04_Encode.l0]
    rw [if_neg (by omega), List.drop_of_length_le (by omega)]
    unfold encGo
    split <;> rfl
  | succ d ih =>
    intro i b ahead k hi hk hb ha
    obtain ⟨k, rfl⟩ : ∃ m, k = m + 2 := ⟨k - 2, by omega⟩
    have hlt : i < L.length := by omega
    rw [ref_head (k + 1) L b i hlt, drop_at L i hlt]
    have hnext : ∀ b', b'.length + d * 5000 ≤ 10000000000 → aquiferref04_Encode.l0 k L b' (wrap64 ((i : Int) + 1)) = some (encGo (L.drop (i + 1)) L[i].f0 b') := by
      intro b' hb'
      rw [wrap_succ i (by omega)]
      exact ih (i + 1) b' L[i].f0 k (by omega) (by omega) hb' (by rw [dif_pos (by omega)]; rfl)
    simp only [aquiferref04_Encode.j1]
    by_cases c1 : bad L[i]
    · rw [if_pos (decide_eq_true c1)]
      have hf : fault L[i] ahead = 2 := by unfold fault; rw [if_pos c1]
      rw [encGo, hf, if_neg (by decide)]
    · rw [if_neg (by simp [c1])]
      by_cases c2 : (L[i].f3.size : Int) > 4096
      · rw [if_pos c2]
        have hf : fault L[i] ahead = 3 := by unfold fault; rw [if_neg c1, if_pos c2]
        rw [encGo, hf, if_neg (by decide)]
      · rw [if_neg c2]
        have hl := fldB_len L[i] (by omega)
        have go : ahead ≤ L[i].f0 → ((aquiferref04_bytes.f k L[i].f0 L[i].f1 L[i].f2 L[i].f3).bind fun t => (if b.length + t.length < 140737488355328 then (aquiferref04_Encode.l0 k L (b ++ t) (wrap64 ((i : Int) + 1))) else (none))) = some (encGo (L[i] :: L.drop (i + 1)) ahead b) := by
          intro hle
          have hf : fault L[i] ahead = 0 := by unfold fault; rw [if_neg c1, if_neg c2, if_neg (by omega)]
          rw [bytes_fn k (by omega) _ c1 (by omega), Option.bind_some, if_pos (by omega), hnext _ (by rw [List.length_append]; omega), encGo, if_pos hf]
        by_cases c3 : i = 0
        · subst c3
          have h0 : ahead = 0 := by rw [ha, dif_neg (by omega)]
          rw [if_neg (by omega)]
          refine go ?_
          unfold bad at c1
          omega
        · have hw : wrap64 ((i : Int) - 1) = ((i - 1 : Nat) : Int) := by unfold wrap64; omega
          have hlt1 : i - 1 < L.length := by omega
          have h0 : ahead = L[i - 1].f0 := by rw [ha, dif_pos ⟨by omega, hlt1⟩]
          rw [if_pos (by omega), hw, if_pos (by omega), if_pos (by omega), rd_at L (i - 1) hlt1]
          by_cases c4 : L[i].f0 < L[i - 1].f0
          · rw [if_pos c4]
            have hf : fault L[i] ahead = 9 := by unfold fault; rw [if_neg c1, if_neg c2, if_pos (by omega)]
            rw [encGo, hf, if_neg (by decide)]
          · rw [if_neg c4]
            exact go (by omega)
theorem ref_fn (L : List S39) (hL : L.length ≤ 1048576) (k : Nat) (hk : 2 * L.length + 12 ≤ k) : aquiferref04_Encode.f k L = some (encGo L 0 []) := by
  have := ref_loop L hL L.length 0 [] 0 k (by omega) (by omega) (by simp; omega) (by rw [dif_neg (by omega)])
  simpa [aquiferref04_Encode.f] using this
/-! ### What is cut to the law's own looks -/
def cutF (f : S39) : S39 := ⟨f.f0, f.f1, f.f2, f.f3.extract 0 (mn (f.f3.size : Int) 4100).toNat⟩
def fewL (L : List S39) : List S39 := (L.take 25).map cutF
theorem few_loop (L : List S39) (hL : L.length ≤ 140737488351232) (d : Nat) : ∀ (i : Nat) (k : Nat), i + d = min 25 L.length → d < k →
    aquiferlaw04_few.l0 k L (((L.take i)).map cutF) (i : Int) = some (fewL L) := by
  induction d with
  | zero =>
    intro i k hi hk
    obtain ⟨k, rfl⟩ : ∃ m, k = m + 1 := ⟨k - 1, by omega⟩
    have e : (L.take i).map cutF = fewL L := by
      unfold fewL
      by_cases h : L.length ≤ 25
      · rw [List.take_of_length_le (by omega), List.take_of_length_le h]
      · rw [show i = 25 by omega]
    simp only [aquiferlaw04_few.l0]
    by_cases c : (i : Int) < (L.length : Int)
    · rw [if_pos c, if_neg (by omega), e]
    · rw [if_neg c, e]
  | succ d ih =>
    intro i k hi hk
    obtain ⟨k, rfl⟩ : ∃ m, k = m + 1 := ⟨k - 1, by omega⟩
    have hlt : i < L.length := by omega
    simp only [aquiferlaw04_few.l0]
    have hm : 0 ≤ mn ((L[i].f3).size : Int) 4100 ∧ mn ((L[i].f3).size : Int) 4100 ≤ ((L[i].f3).size : Int) := by unfold mn; split <;> omega
    rw [if_pos (by omega), if_pos (by omega), if_pos (by omega), rd_at L i hlt, if_pos hm.1, if_pos hm.2, if_pos (by simp; omega), wrap_succ i (by omega)]
    have e : (L.take i).map cutF ++ [(⟨L[i].f0, L[i].f1, L[i].f2, L[i].f3.extract 0 (mn ((L[i].f3).size : Int) 4100).toNat⟩ : S39)] = (L.take (i + 1)).map cutF := by
      rw [List.take_succ_eq_append_getElem hlt, List.map_append]
      rfl
    rw [e]
    exact ih (i + 1) k (by omega) (by omega)
theorem few_fn (L : List S39) (hL : L.length ≤ 140737488351232) (k : Nat) (hk : 26 ≤ k) : aquiferlaw04_few.f k L = some (fewL L) := by
  have := few_loop L hL (min 25 L.length) 0 k (by omega) (by omega)
  simpa [aquiferlaw04_few.f] using this
theorem few_len (L : List S39) : (fewL L).length ≤ 25 := by
  unfold fewL
  simp
  omega
theorem works_40 : aquiferlaw04_works.f 40 = some true := by decide +kernel
theorem works_fn (k : Nat) (hk : 40 ≤ k) : aquiferlaw04_works.f k = some true := at_rounds (aquiferlaw04_works.mono) hk works_40
end Go.Proofs.Ytinibpncbhmchaa.Q
