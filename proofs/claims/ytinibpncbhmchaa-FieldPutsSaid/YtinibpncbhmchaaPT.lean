import Derived.Test.YtinibpncbhmchaaPS
import Derived.Test.YtinibpncbhmchaaPG
import Derived.Test.YtinibpncbhmchaaQ18
import Derived.Test.YtinibpncbhmchaaQ22
import Derived.Test.YtinibpncbhmchaaQ24
import Derived.Test.YtinibpncbhmchaaQ25
import Derived.Test.YtinibpncbhmchaaQ26
namespace Go.Proofs.Ytinibpncbhmchaa.Q
open Go Go.RowKit Go.Proofs.YtinibpncbhmchaaW.PrintWords Go.Proofs.YtinibpncbhmchaaW.PrintLast Go.Proofs.YtinibpncbhmchaaW.PrintMore
set_option linter.unusedSimpArgs false
set_option linter.unusedVariables false
theorem cut_cut (f : S39) : cutF (cutF f) = cutF f := by
  obtain ⟨a, b, c, s⟩ := f
  simp only [cutF]
  generalize hq : s.extract 0 (mn (s.size : Int) 4100).toNat = q
  have h1 : q.size ≤ 4100 := by
    rw [← hq, ByteArray.size_extract]
    unfold mn
    split <;> omega
  have h2 : (mn (q.size : Int) 4100).toNat = q.size := by
    unfold mn
    split <;> omega
  rw [h2, ByteArray.extract_zero_size]
theorem few_few (L : List S39) : fewL (fewL L) = fewL L := by
  have h : (fewL L).take 25 = fewL L := List.take_of_length_le (few_len L)
  have e : fewL (fewL L) = ((fewL L).take 25).map cutF := rfl
  rw [e, h]
  unfold fewL
  rw [List.map_map]
  exact List.map_congr_left (fun f _ => cut_cut f)
theorem sameT_loop (L : List ByteArray) (hL : L.length ≤ 140737488351232) (d : Nat) : ∀ (i k : Nat), i + d = L.length → d < k → aquiferref04_SameTexts.l0 k L L (i : Int) = some true := by
  induction d with
  | zero =>
    intro i k hi hk
    obtain ⟨k, rfl⟩ : ∃ m, k = m + 1 := ⟨k - 1, by omega⟩
    simp only [aquiferref04_SameTexts.l0]
    rw [if_neg (by omega)]
  | succ d ih =>
    intro i k hi hk
    obtain ⟨k, rfl⟩ : ∃ m, k = m + 1 := ⟨k - 1, by omega⟩
    simp only [aquiferref04_SameTexts.l0]
    rw [if_pos (by omega), if_pos (by omega), if_pos (by omega), if_pos trivial, wrap_succ i (by omega)]
    exact ih (i + 1) k (by omega) (by omega)
theorem sameT_refl (L : List ByteArray) (hL : L.length ≤ 140737488351232) (k : Nat) (hk : L.length < k) : aquiferref04_SameTexts.f k L L = some true := by
  unfold aquiferref04_SameTexts.f
  rw [if_pos rfl]
  exact sameT_loop L hL L.length 0 k (by omega) hk
theorem isOf_iff (t kd : Int) (f : S39) : isOf t kd f = true ↔ f.f0 = t ∧ f.f1 = kd := by simp [isOf]
def firstN : List S39 → Int × Bool
  | f :: _ => (f.f2, true)
  | [] => (0, false)
theorem refNum_loop (L : List S39) (hL : L.length ≤ 1048576) (t : Int) (d : Nat) : ∀ (i k : Nat), i + d = L.length → d < k → aquiferref04_Num.l0 k L t (i : Int) = some (firstN ((L.drop i).filter (isOf t 0))) := by
  induction d with
  | zero =>
    intro i k hi hk
    obtain ⟨k, rfl⟩ : ∃ m, k = m + 1 := ⟨k - 1, by omega⟩
    simp only [aquiferref04_Num.l0]
    rw [if_neg (by omega), List.drop_of_length_le (by omega)]
    rfl
  | succ d ih =>
    intro i k hi hk
    obtain ⟨k, rfl⟩ : ∃ m, k = m + 1 := ⟨k - 1, by omega⟩
    have hlt : i < L.length := by omega
    simp only [aquiferref04_Num.l0]
    rw [if_pos (by omega), if_pos (by omega), rd_at L i hlt, drop_at L i hlt, wrap_succ i (by omega), ih (i + 1) k (by omega) (by omega)]
    generalize L[i] = f
    by_cases h1 : f.f0 = t
    · by_cases h2 : f.f1 = 0
      · rw [if_pos h1, if_pos h2, List.filter_cons_of_pos ((isOf_iff _ _ _).2 ⟨h1, h2⟩)]
        rfl
      · rw [if_pos h1, if_neg h2, List.filter_cons_of_neg (fun h => h2 ((isOf_iff _ _ _).1 h).2)]
    · rw [if_neg h1, List.filter_cons_of_neg (fun h => h1 ((isOf_iff _ _ _).1 h).1)]
theorem refNum_fn (L : List S39) (hL : L.length ≤ 1048576) (t : Int) (k : Nat) (hk : L.length < k) : aquiferref04_Num.f k L t = some (firstN (L.filter (isOf t 0))) := by
  have := refNum_loop L hL t L.length 0 k (by omega) hk
  simpa [aquiferref04_Num.f] using this
theorem num_fn2 (L : List S39) (hL : L.length ≤ 1048576) (t : Int) : field_Num.f L t = some (firstN (L.filter (isOf t 0))) := by
  unfold field_Num.f
  rw [if_pos hL]
  cases L.filter (isOf t 0) <;> rfl
def textsOf (L : List S39) (t : Int) : List ByteArray := (L.filter (isOf t 1)).map (·.f3)
theorem refTexts_loop (L : List S39) (hL : L.length ≤ 1048576) (t : Int) (d : Nat) : ∀ (i k : Nat) (acc : List ByteArray), i + d = L.length → d < k → acc.length ≤ i → aquiferref04_Texts.l0 k L t acc (i : Int) = some (acc ++ textsOf (L.drop i) t) := by
  induction d with
  | zero =>
    intro i k acc hi hk ha
    obtain ⟨k, rfl⟩ : ∃ m, k = m + 1 := ⟨k - 1, by omega⟩
    simp only [aquiferref04_Texts.l0]
    rw [if_neg (by omega), List.drop_of_length_le (by omega)]
    simp [textsOf]
  | succ d ih =>
    intro i k acc hi hk ha
    obtain ⟨k, rfl⟩ : ∃ m, k = m + 1 := ⟨k - 1, by omega⟩
    have hlt : i < L.length := by omega
    simp only [aquiferref04_Texts.l0]
    rw [if_pos (by omega), if_pos (by omega), rd_at L i hlt, drop_at L i hlt, wrap_succ i (by omega), ih (i + 1) k acc (by omega) (by omega) (by omega)]
    generalize L[i] = f
    unfold textsOf
    by_cases h1 : f.f0 = t
    · by_cases h2 : f.f1 = 1
      · rw [if_pos h1, if_pos h2, if_pos (by omega), List.filter_cons_of_pos ((isOf_iff _ _ _).2 ⟨h1, h2⟩), ih (i + 1) k _ (by omega) (by omega) (by simp; omega)]
        simp [textsOf]
      · rw [if_pos h1, if_neg h2, List.filter_cons_of_neg (fun h => h2 ((isOf_iff _ _ _).1 h).2)]
    · rw [if_neg h1, List.filter_cons_of_neg (fun h => h1 ((isOf_iff _ _ _).1 h).1)]
theorem refTexts_fn (L : List S39) (hL : L.length ≤ 1048576) (t : Int) (k : Nat) (hk : L.length < k) : aquiferref04_Texts.f k L t = some (textsOf L t) := by
  have := refTexts_loop L hL t L.length 0 k [] (by omega) hk (by simp)
  simpa [aquiferref04_Texts.f] using this
theorem texts_fn2 (L : List S39) (hL : L.length ≤ 1048576) (t : Int) : field_Texts.f L t = some (textsOf L t) := by
  unfold field_Texts.f
  rw [if_pos hL]
  rfl
theorem texts_len (L : List S39) (t : Int) : (textsOf L t).length ≤ L.length := by
  unfold textsOf
  rw [List.length_map]
  exact List.length_filter_le _ _
def firstT : List ByteArray → ByteArray × Bool
  | s :: _ => (s, true)
  | [] => (⟨#[]⟩, false)
theorem text_fn2 (L : List S39) (hL : L.length ≤ 1048576) (t : Int) : field_Text.f L t = some (firstT (textsOf L t)) := by
  unfold field_Text.f textsOf
  rw [if_pos hL]
  cases L.filter (isOf t 1) <;> rfl
theorem refText_fn (L : List S39) (hL : L.length ≤ 1048576) (t : Int) (k : Nat) (hk : L.length < k) : aquiferref04_Text.f k L t = some (firstT (textsOf L t)) := by
  unfold aquiferref04_Text.f
  rw [refTexts_fn L hL t k hk, Option.bind_some]
  cases textsOf L t with
  | nil => rfl
  | cons s l =>
    rw [if_neg (by rw [List.length_cons]; omega), if_pos (by rw [List.length_cons]; omega)]
    rfl
def below (t : Int) (x : S39) : Bool := !(decide (x.f0 > t))
def putL (L : List S39) (f : S39) : List S39 := L.takeWhile (below f.f0) ++ [f] ++ L.dropWhile (below f.f0)
theorem put_len (L : List S39) (f : S39) : (putL L f).length = L.length + 1 := by
  unfold putL
  have : (L.takeWhile (below f.f0)).length + (L.dropWhile (below f.f0)).length = L.length := by rw [← List.length_append, List.takeWhile_append_dropWhile]
  simp
  omega
theorem put_fn2 (L : List S39) (hL : L.length ≤ 1048576) (f : S39) : field_Put.f L f.f0 f.f1 f.f2 f.f3 = some (putL L f) := by
  unfold field_Put.f
  rw [if_pos hL]
  rfl
theorem refPut_after (L : List S39) (hL : L.length ≤ 1048576) (f : S39) (d : Nat) : ∀ (i k : Nat) (acc : List S39), i + d = L.length → d < k → acc.length ≤ i + 1 → aquiferref04_Put.l0 k L acc true (i : Int) f.f0 f.f1 f.f2 f.f3 = some (acc ++ L.drop i) := by
  induction d with
  | zero =>
    intro i k acc hi hk ha
    obtain ⟨k, rfl⟩ : ∃ m, k = m + 1 := ⟨k - 1, by omega⟩
    simp only [aquiferref04_Put.l0]
    rw [if_neg (by omega), if_pos trivial, List.drop_of_length_le (by omega), List.append_nil]
  | succ d ih =>
    intro i k acc hi hk ha
    obtain ⟨k, rfl⟩ : ∃ m, k = m + 1 := ⟨k - 1, by omega⟩
    have hlt : i < L.length := by omega
    simp only [aquiferref04_Put.l0]
    rw [if_pos (by omega), if_pos trivial, if_pos (by omega), if_pos (by omega), wrap_succ i (by omega), ih (i + 1) k _ (by omega) (by omega) (by simp; omega), rd_at L i hlt, drop_at L i hlt, List.append_assoc]
    rfl
theorem refPut_loop (L : List S39) (hL : L.length ≤ 1048576) (f : S39) (d : Nat) : ∀ (i k : Nat) (acc : List S39), i + d = L.length → d < k → acc.length ≤ i → aquiferref04_Put.l0 k L acc false (i : Int) f.f0 f.f1 f.f2 f.f3 = some (acc ++ putL (L.drop i) f) := by
  induction d with
  | zero =>
    intro i k acc hi hk ha
    obtain ⟨k, rfl⟩ : ∃ m, k = m + 1 := ⟨k - 1, by omega⟩
    simp only [aquiferref04_Put.l0]
    rw [if_neg (by omega), if_neg (by decide), if_pos (by omega), List.drop_of_length_le (by omega)]
    rfl
  | succ d ih =>
    intro i k acc hi hk ha
    obtain ⟨k, rfl⟩ : ∃ m, k = m + 1 := ⟨k - 1, by omega⟩
    have hlt : i < L.length := by omega
    simp only [aquiferref04_Put.l0]
    rw [if_pos (by omega), if_neg (by decide), if_pos (by omega), wrap_succ i (by omega), rd_at L i hlt, drop_at L i hlt]
    by_cases h : L[i].f0 > f.f0
    · rw [if_pos h, if_pos (by omega), Option.bind_some, if_pos (by simp; omega), refPut_after L hL f d (i + 1) k _ (by omega) (by omega) (by simp; omega)]
      have hb : below f.f0 L[i] = false := by simp [below]; omega
      generalize L[i] = g at hb
      generalize L.drop (i + 1) = R
      simp [putL, hb]
    · rw [if_neg h, if_pos (by omega), ih (i + 1) k _ (by omega) (by omega) (by simp; omega)]
      have hb : below f.f0 L[i] = true := by simp [below]; omega
      generalize L[i] = g at hb
      generalize L.drop (i + 1) = R
      simp [putL, hb]
theorem refPut_fn (L : List S39) (hL : L.length ≤ 1048576) (f : S39) (k : Nat) (hk : L.length < k) : aquiferref04_Put.f k L f.f0 f.f1 f.f2 f.f3 = some (putL L f) := by
  have := refPut_loop L hL f L.length 0 k [] (by omega) hk (by simp)
  simpa [aquiferref04_Put.f] using this
end Go.Proofs.Ytinibpncbhmchaa.Q
