import Derived.Test.YtinibpncbhmchaaPS
import Derived.Test.YtinibpncbhmchaaQ12
namespace Go.Proofs.Ytinibpncbhmchaa.Q
open Go Go.RowKit Go.Proofs.YtinibpncbhmchaaW.PrintWords Go.Proofs.YtinibpncbhmchaaW.PrintLast Go.Proofs.YtinibpncbhmchaaW.PrintMore
set_option linter.unusedSimpArgs false
set_option linter.unusedVariables false
/-! ### The reference's reading, on lists -/
def refN : Nat → Int → Int → List UInt8 → Option (Int × List UInt8)
  | 0, _, _, _ => none
  | _ + 1, _, _, [] => none
  | f + 1, w, n, c :: t => if c.toNat < 128 then some (n + (c.toNat : Int) * w, t) else refN f (w * 128) (n + ((c.toNat - 128 : Nat) : Int) * w) t
def refD (s : ByteArray) : Nat → List S39 → List UInt8 → List S39 × Int
  | 0, _, _ => ([], 5)
  | _ + 1, out, [] => if (encGo out 0 []).2 = 0 ∧ (encGo out 0 []).1.toList = s.toList then (out, 0) else ([], 5)
  | m + 1, out, c :: t => match refN 9 1 0 t with
    | none => ([], 5)
    | some (v, u) => if c.toNat % 2 = 0 then (if t = u8 (numB v.toNat) ++ u then refD s m (out ++ [⟨(c.toNat / 2 : Nat), (c.toNat % 2 : Nat), v, mkS []⟩]) u else ([], 5))
      else if v > (u.length : Int) then ([], 5)
      else if t = u8 (numB v.toNat) ++ u then refD s m (out ++ [⟨(c.toNat / 2 : Nat), (c.toNat % 2 : Nat), 0, mkS (u.take v.toNat)⟩]) (u.drop v.toNat) else ([], 5)
theorem refN_pre (f : Nat) : ∀ (w n v : Int) (l u : List UInt8), refN f w n l = some (v, u) → 0 ≤ n → 0 ≤ w → ∃ pre, l = pre ++ u ∧ 1 ≤ pre.length ∧ n ≤ v := by
  induction f with
  | zero => intro w n v l u h; cases h
  | succ f ih =>
    intro w n v l u h hn hp
    cases l with
    | nil => cases h
    | cons c t =>
      unfold refN at h
      by_cases hc : c.toNat < 128
      · rw [if_pos hc] at h
        injection h with h
        injection h with h1 h2
        have := Int.mul_nonneg (Int.natCast_nonneg c.toNat) hp
        exact ⟨[c], by rw [h2]; rfl, Nat.le_refl _, by omega⟩
      · rw [if_neg hc] at h
        have h0 := Int.mul_nonneg (Int.natCast_nonneg (c.toNat - 128)) hp
        obtain ⟨pre, hl, _, hv⟩ := ih _ _ _ _ _ h (by omega) (by omega)
        exact ⟨c :: pre, by rw [hl]; rfl, by simp, by omega⟩
theorem refN_lt (f : Nat) : ∀ (w n v : Int) (l u : List UInt8), refN f w n l = some (v, u) → 0 ≤ w → n < w → v < w * 128 ^ f := by
  induction f with
  | zero => intro w n v l u h; cases h
  | succ f ih =>
    intro w n v l u h hp hn
    cases l with
    | nil => cases h
    | cons c t =>
      have hcl := c.toNat_lt
      have hstep : ∀ a : Nat, a < 128 → n + (a : Int) * w < w * 128 := by
        intro a ha
        have : (a : Int) * w ≤ 127 * w := Int.mul_le_mul_of_nonneg_right (by omega) (by omega)
        omega
      have hpw : w * 128 * 128 ^ f = w * 128 ^ (f + 1) := by rw [Int.pow_succ, Int.mul_assoc, Int.mul_comm 128]
      unfold refN at h
      by_cases hc : c.toNat < 128
      · rw [if_pos hc] at h
        injection h with h
        injection h with h1 _
        rw [← h1, ← hpw]
        have h1 : (1 : Int) ≤ 128 ^ f := Int.pow_pos (by decide)
        have h3 : w * 128 * 1 ≤ w * 128 * 128 ^ f := Int.mul_le_mul_of_nonneg_left h1 (by omega)
        have h4 := hstep _ hc
        omega
      · rw [if_neg hc] at h
        have := ih _ _ _ _ _ h (by omega) (hstep _ (by omega))
        rw [hpw] at this
        exact this
theorem refN_num (j : Nat) : ∀ (m : Nat) (w acc : Int) (t : List UInt8) (f : Nat), m < 128 ^ (j + 1) → j < f → refN f w acc (u8 (numBf j m) ++ t) = some (acc + (m : Int) * w, t) := by
  induction j with
  | zero =>
    intro m w acc t f hm hf
    obtain ⟨f, rfl⟩ : ∃ g, f = g + 1 := ⟨f - 1, by omega⟩
    simp at hm
    have e : u8 (numBf 0 m) ++ t = UInt8.ofNat m :: t := rfl
    rw [e]
    unfold refN
    rw [u8_of m (by omega), if_pos hm]
  | succ j ih =>
    intro m w acc t f hm hf
    obtain ⟨f, rfl⟩ : ∃ g, f = g + 1 := ⟨f - 1, by omega⟩
    by_cases c : m < 128
    · have e : u8 (numBf (j + 1) m) ++ t = UInt8.ofNat m :: t := by
        unfold numBf
        rw [if_pos c]
        rfl
      rw [e]
      unfold refN
      rw [u8_of m (by omega), if_pos c]
    · have e : u8 (numBf (j + 1) m) ++ t = UInt8.ofNat (128 + m % 128) :: (u8 (numBf j (m / 128)) ++ t) := by
        conv => lhs; unfold numBf
        rw [if_neg c]
        rfl
      have hd : m / 128 < 128 ^ (j + 1) := by rw [Nat.pow_succ] at hm; exact Nat.div_lt_of_lt_mul (by rw [Nat.mul_comm]; exact hm)
      rw [e]
      unfold refN
      rw [u8_of _ (by omega), if_neg (by omega), ih (m / 128) (w * 128) _ t f hd (by omega)]
      have hval : acc + ((128 + m % 128 - 128 : Nat) : Int) * w + ((m / 128 : Nat) : Int) * (w * 128) = acc + (m : Int) * w := by
        have hm2 : (m : Int) = ((m % 128 : Nat) : Int) + 128 * ((m / 128 : Nat) : Int) := by omega
        rw [show 128 + m % 128 - 128 = m % 128 by omega, Int.add_assoc]
        congr 1
        conv => rhs; rw [hm2]
        rw [Int.add_mul]
        congr 1
        rw [Int.mul_comm w 128, ← Int.mul_assoc, Int.mul_comm _ 128]
      rw [hval]
/-- Of a record's bytes the reference makes the record. -/
theorem refD_flat (s : ByteArray) (L : List S39) : ∀ (m : Nat) (out : List S39), (∀ f ∈ L, wf f) → (flat L).length < m → refD s m out (flat L) = refD s 1 (out ++ L) [] := by
  induction L with
  | nil =>
    intro m out _ hm
    obtain ⟨m, rfl⟩ : ∃ g, m = g + 1 := ⟨m - 1, by omega⟩
    rw [List.append_nil]
    rfl
  | cons f l ih =>
    intro m out hw hm
    obtain ⟨m, rfl⟩ : ∃ g, m = g + 1 := ⟨m - 1, by omega⟩
    obtain ⟨hb, hs⟩ := hw f List.mem_cons_self
    obtain ⟨h1, h2, h3⟩ := (bad_iff f).1 hb
    have hrest := fun m' out' hm' => ih m' out' (fun x hx => hw x (List.mem_cons_of_mem _ hx)) hm'
    have e0 : out ++ f :: l = (out ++ [f]) ++ l := by simp
    have hln : (flat l).length < m := by
      obtain ⟨c, t, hc⟩ := fldU_ne f
      rw [flat_cons, hc] at hm
      simp at hm
      omega
    rw [e0, ← hrest m (out ++ [f]) hln]
    obtain ⟨tg, kd, n, x⟩ := f
    simp only at h1 h2 h3 hs
    rcases h3 with ⟨rfl, hs0, hn0, hn1⟩ | ⟨rfl, rfl⟩
    · obtain ⟨q, rfl⟩ := Int.eq_ofNat_of_zero_le hn0
      obtain rfl := toList_mk hs0
      have e : flat ((⟨tg, 0, (q : Int), mkS []⟩ : S39) :: l) = UInt8.ofNat (2 * tg + 0).toNat :: (u8 (numB q) ++ flat l) := by
        rw [flat_cons]
        simp only [fldU, fldB, u8_cons, List.cons_append, Int.toNat_natCast, if_pos]
      have hc : (UInt8.ofNat (2 * tg + 0).toNat).toNat = (2 * tg + 0).toNat := u8_of _ (by omega)
      have hnum : refN 9 1 0 (u8 (numB q) ++ flat l) = some ((q : Int), flat l) := by
        unfold numB
        rw [numBf_more 8 q (lt128' q (by omega)), refN_num 8 q 1 0 (flat l) 9 (lt128' q (by omega)) (by omega)]
        simp
      rw [e, refD, hnum]
      simp only [hc, Int.toNat_natCast]
      rw [if_pos (by omega), if_pos trivial, show (2 * tg + 0).toNat / 2 = tg.toNat by omega, show (2 * tg + 0).toNat % 2 = 0 by omega, show ((tg.toNat : Nat) : Int) = tg by omega]
      rfl
    · have hsl : x.data.toList.length = x.size := by simp
      have e : flat ((⟨tg, 1, 0, x⟩ : S39) :: l) = UInt8.ofNat (2 * tg + 1).toNat :: (u8 (numB x.size) ++ (x.data.toList ++ flat l)) := by
        rw [flat_cons]
        unfold fldU fldB
        rw [if_neg (show ¬ (1 : Int) = 0 by decide), u8_cons, u8_append, u8_bytes, List.cons_append, List.append_assoc]
      have hc : (UInt8.ofNat (2 * tg + 1).toNat).toNat = (2 * tg + 1).toNat := u8_of _ (by omega)
      have hnum : refN 9 1 0 (u8 (numB x.size) ++ (x.data.toList ++ flat l)) = some ((x.size : Int), x.data.toList ++ flat l) := by
        unfold numB
        rw [numBf_more 8 x.size (lt128' _ (by omega)), refN_num 8 x.size 1 0 _ 9 (lt128' _ (by omega)) (by omega)]
        simp
      rw [e, refD, hnum]
      simp only [hc, Int.toNat_natCast]
      rw [if_neg (by omega), if_neg (by rw [List.length_append, hsl]; omega), if_pos trivial, show (2 * tg + 1).toNat / 2 = tg.toNat by omega, show (2 * tg + 1).toNat % 2 = 1 by omega, show ((tg.toNat : Nat) : Int) = tg by omega,
        ← hsl, List.take_left, List.drop_left, mkS_data]
      rfl
theorem refD_end (s : ByteArray) (out : List S39) : refD s 1 out [] = if (encGo out 0 []).2 = 0 ∧ (encGo out 0 []).1.toList = s.toList then (out, 0) else ([], 5) := rfl
theorem toList_inj {a b : ByteArray} (h : a.toList = b.toList) : a = b := by
  rw [ByteArray.toList_eq, ByteArray.toList_eq] at h
  rw [← mkS_data a, ← mkS_data b, h]
theorem refD_cases (s : ByteArray) (m : Nat) : ∀ (out : List S39) (l : List UInt8), refD s m out l = ([], 5) ∨ ∃ M, refD s m out l = (M, 0) ∧ encGo M 0 [] = (s, 0) := by
  induction m with
  | zero => intro out l; exact .inl rfl
  | succ m ih =>
    intro out l
    cases l with
    | nil =>
      show (if (encGo out 0 []).2 = 0 ∧ (encGo out 0 []).1.toList = s.toList then (out, (0 : Int)) else ([], 5)) = _ ∨ ∃ M, (if (encGo out 0 []).2 = 0 ∧ (encGo out 0 []).1.toList = s.toList then (out, (0 : Int)) else ([], 5)) = _ ∧ _
      by_cases h : (encGo out 0 []).2 = 0 ∧ (encGo out 0 []).1.toList = s.toList
      · rw [if_pos h]
        exact .inr ⟨out, rfl, Prod.ext (toList_inj h.2) h.1⟩
      · rw [if_neg h]
        exact .inl rfl
    | cons c t =>
      rw [refD]
      cases refN 9 1 0 t with
      | none => exact .inl rfl
      | some p =>
        obtain ⟨v, u⟩ := p
        simp only
        split
        · split
          · exact ih _ _
          · exact .inl rfl
        · split
          · exact .inl rfl
          · split
            · exact ih _ _
            · exact .inl rfl
theorem refD_dec (s : ByteArray) (hs : s.size ≤ 65536) (m : Nat) (hm : s.size < m) : refD s m [] s.data.toList = decS s := by
  have hsl : s.data.toList.length = s.size := by simp
  rcases refD_cases s m [] s.data.toList with h | ⟨M, h, he⟩
  · rcases decS_total s with h0 | h0
    · obtain ⟨M, e, hd⟩ : ∃ M e, decS s = (M, e) := ⟨_, _, rfl⟩
      rw [hd] at h0
      simp only at h0
      subst h0
      obtain ⟨hv, hl, hM⟩ := (decS_iff s M).1 hd
      have hfl : s.data.toList = flat M := by rw [hM, data_mkS]
      have he := (dec_enc M s).1 hd
      rw [hfl, refD_flat s M m [] (valid_wf hv) (by rw [← hfl]; omega), List.nil_append, refD_end, he, if_pos ⟨rfl, rfl⟩] at h
      injection h with _ h
      cases h
    · rw [h, h0]
  · rw [h, (dec_enc M s).2 he]
end Go.Proofs.Ytinibpncbhmchaa.Q
