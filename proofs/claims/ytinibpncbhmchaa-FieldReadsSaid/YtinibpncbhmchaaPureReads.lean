import Derived.Test.YtinibpncbhmchaaPR2
namespace Go.Proofs.Ytinibpncbhmchaa.Q
open Go Go.RowKit Go.Proofs.YtinibpncbhmchaaW.PrintWords Go.Proofs.YtinibpncbhmchaaW.PrintLast Go.Proofs.YtinibpncbhmchaaW.PrintMore
set_option linter.unusedSimpArgs false
set_option linter.unusedVariables false
theorem extract_toList (s : ByteArray) (a b : Nat) : (s.extract a b).toList = (s.data.toList.drop a).take (b - a) := by
  rw [ByteArray.toList_eq, ByteArray.data_extract, Array.toList_extract, List.extract_eq_take_drop]
theorem extract_mkS (s : ByteArray) (a b : Nat) : s.extract a b = mkS ((s.data.toList.drop a).take (b - a)) := by
  rw [← mkS_data (s.extract a b), ← ByteArray.toList_eq, extract_toList]
theorem tag_tdiv (c : Nat) (hc : c < 256) : wrap64 (Int.tdiv (wrap64 (c : Int)) 2) = ((c / 2 : Nat) : Int) ∧ Int.tmod (wrap64 (c : Int)) 2 = ((c % 2 : Nat) : Int) := by
  rw [wrap_id (c : Int) (by omega) (by omega), Int.tdiv_eq_ediv_of_nonneg (by omega), Int.tmod_eq_emod_of_nonneg (by omega)]
  refine ⟨?_, by omega⟩
  rw [wrap_id _ (by omega) (by omega)]
  omega
theorem mul9 : (1 : Int) * 128 ^ 9 = 9223372036854775808 := by decide +kernel
/-- Behind the number: the field is told, or refused. -/
theorem j4_ok (s : ByteArray) (hs : s.size ≤ 65536) (out : List S39) (p : Nat) (c : UInt8) (t u pre : List UInt8) (v : Int) (k : Nat) (hk : 20 ≤ k) (hout : out.length ≤ 65536) (hd : s.data.toList.drop p = c :: t) (hp : p < s.size) (ht : t = pre ++ u) (hv0 : 0 ≤ v) (hv : v < 9223372036854775808) (m : Nat)
    (hnext : ∀ out' u', (∃ q, u = q ++ u') → out'.length = out.length + 1 → aquiferref04_Decode.l0 k s out' ((s.size - u'.length : Nat) : Int) = some (refD s m out' u')) :
    aquiferref04_Decode.j4 (k + 1) s out (p : Int) v ((s.size - u.length : Nat) : Int) (jb ((c.toNat % 2 : Nat) : Int) v (u.length : Int)) ((c.toNat / 2 : Nat) : Int) ((c.toNat % 2 : Nat) : Int) 0 (⟨#[]⟩ : ByteArray) =
      some (if c.toNat % 2 = 0 then (if t = u8 (numB v.toNat) ++ u then refD s m (out ++ [⟨(c.toNat / 2 : Nat), (c.toNat % 2 : Nat), v, mkS []⟩]) u else ([], 5))
        else if v > (u.length : Int) then ([], 5)
        else if t = u8 (numB v.toNat) ++ u then refD s m (out ++ [⟨(c.toNat / 2 : Nat), (c.toNat % 2 : Nat), 0, mkS (u.take v.toNat)⟩]) (u.drop v.toNat) else ([], 5)) := by
  have hsl : s.data.toList.length = s.size := by simp
  have hcl := c.toNat_lt
  have hlen : s.size - p = t.length + 1 := by
    have := congrArg List.length hd
    rw [List.length_drop, hsl] at this
    simpa using this
  have hlt : t.length = pre.length + u.length := by rw [ht, List.length_append]
  have hc0 : UInt8.ofNat ((c.toNat : Int)).toNat = c := by simp
  obtain ⟨n, rfl⟩ := Int.eq_ofNat_of_zero_le hv0
  rw [Int.toNat_natCast]
  by_cases e : c.toNat % 2 = 0
  · have e' : ((c.toNat % 2 : Nat) : Int) = 0 := by omega
    have hb := bytes_gen k (by omega) c (n : Int) ⟨#[]⟩ (by omega) hv (by decide)
    rw [if_pos e'] at hb
    have hj : jb ((c.toNat % 2 : Nat) : Int) (n : Int) (u.length : Int) = false := by unfold jb; rw [if_neg (by omega)]
    have hx : (s.extract p (s.size - u.length)).toList = c :: pre := by
      rw [extract_toList, hd, ht, show s.size - u.length - p = pre.length + 1 by omega, List.take_succ_cons, List.take_left]
    have hy : (strOfNums ((c.toNat : Int) :: numB n)).toList = c :: u8 (numB n) := by
      rw [strOf, toList_mkS, u8_cons, hc0]
    simp only [aquiferref04_Decode.j4]
    rw [hj, if_neg (by decide), if_pos e', hb, Option.bind_some, if_pos (by omega), if_pos (by omega), if_pos (by omega), Int.toNat_natCast, Int.toNat_natCast, Int.toNat_natCast, hx, hy, if_pos e]
    by_cases hh : t = u8 (numB n) ++ u
    · have hpre : u8 (numB n) = pre := by
        rw [ht] at hh
        exact (List.append_cancel_right hh).symm
      rw [if_pos (by rw [hpre]), if_pos hh, if_pos (by omega)]
      exact hnext _ u ⟨[], rfl⟩ (by simp)
    · rw [if_neg hh, if_neg]
      intro h
      injection h with _ h
      exact hh (by rw [ht, h])
  · have e' : ¬ ((c.toNat % 2 : Nat) : Int) = 0 := by omega
    have e1 : ((c.toNat % 2 : Nat) : Int) = 1 := by omega
    rw [if_neg e]
    by_cases hn : (n : Int) > (u.length : Int)
    · have hj : jb ((c.toNat % 2 : Nat) : Int) (n : Int) (u.length : Int) = true := by unfold jb; rw [if_pos e1, decide_eq_true hn]
      simp only [aquiferref04_Decode.j4]
      rw [hj, if_pos rfl, if_pos hn]
    · have hj : jb ((c.toNat % 2 : Nat) : Int) (n : Int) (u.length : Int) = false := by unfold jb; rw [if_pos e1, decide_eq_false hn]
      rw [if_neg hn]
      have hw := Aside0.mk (show wrap64 (((s.size - u.length : Nat) : Int) + (n : Int)) = ((s.size - u.length + n : Nat) : Int) by rw [wrap_id _ (by omega) (by omega)]; omega)
      have hdu : s.data.toList.drop (s.size - u.length) = u := by
        have h1 : s.data.toList.drop (s.size - u.length) = (s.data.toList.drop p).drop (s.size - u.length - p) := by rw [List.drop_drop, show p + (s.size - u.length - p) = s.size - u.length by omega]
        rw [h1, hd, ht, show s.size - u.length - p = pre.length + 1 by omega, List.drop_succ_cons, List.drop_left]
      have hX : s.extract (s.size - u.length) (s.size - u.length + n) = mkS (u.take n) := by
        rw [extract_mkS, hdu, show s.size - u.length + n - (s.size - u.length) = n by omega]
      have hXs : (mkS (u.take n)).size = n := by rw [size_mkS, List.length_take]; omega
      have hb := bytes_gen k (by omega) c 0 (mkS (u.take n)) (by omega) (by omega) (by omega)
      rw [if_neg e', hXs] at hb
      have hx : (s.extract p (s.size - u.length + n)).toList = c :: (pre ++ u.take n) := by
        rw [extract_toList, hd, ht, show s.size - u.length + n - p = (pre.length + n) + 1 by omega, List.take_succ_cons, List.take_length_add_append]
      have hy : (strOfNums ((c.toNat : Int) :: (numB n ++ bytesOf (mkS (u.take n))))).toList = c :: (u8 (numB n) ++ u.take n) := by
        rw [strOf, toList_mkS, u8_cons, u8_append, u8_bytes, data_mkS, hc0]
      simp only [aquiferref04_Decode.j4]
      rw [hj, if_neg (by decide), if_neg e', hw.out, if_pos (by omega), if_pos (by omega), if_pos (by omega), Int.toNat_natCast, Int.toNat_natCast, hX, hb, Option.bind_some, if_pos (by omega), if_pos (by omega), Int.toNat_natCast, hx, hy]
      by_cases hh : t = u8 (numB n) ++ u
      · have hpre : u8 (numB n) = pre := by
          rw [ht] at hh
          exact (List.append_cancel_right hh).symm
        rw [if_pos (by rw [hpre]), if_pos hh, if_pos (by omega)]
        have := hnext (out ++ [⟨(c.toNat / 2 : Nat), (c.toNat % 2 : Nat), 0, mkS (u.take n)⟩]) (u.drop n) ⟨u.take n, (List.take_append_drop _ _).symm⟩ (by simp)
        rw [show s.size - (u.drop n).length = s.size - u.length + n by rw [List.length_drop]; omega] at this
        exact this
      · rw [if_neg hh, if_neg]
        intro h
        injection h with _ h
        exact hh (by rw [ht, List.append_cancel_right h])
theorem l0_ok (s : ByteArray) (hs : s.size ≤ 65536) (m : Nat) : ∀ (out : List S39) (l : List UInt8) (k : Nat), (∃ q, s.data.toList = q ++ l) → l.length < m → out.length + l.length ≤ 65536 → 20 * m + 2 * 65536 + 100 ≤ k →
    aquiferref04_Decode.l0 k s out ((s.size - l.length : Nat) : Int) = some (refD s m out l) := by
  have hsl : s.data.toList.length = s.size := by simp
  induction m with
  | zero => intro out l k _ h; omega
  | succ m ih =>
    intro out l k hq hm hout hk
    obtain ⟨k, rfl⟩ : ∃ g, k = g + 1 := ⟨k - 1, by omega⟩
    obtain ⟨q, hq⟩ := hq
    have hql : q.length + l.length = s.size := by rw [← hsl, hq, List.length_append]
    cases l with
    | nil =>
      simp only [aquiferref04_Decode.l0]
      simp only [List.length_nil] at hout ⊢
      rw [if_neg (by omega), ref_fn out (by omega) k (by omega), Option.bind_some]
      show _ = some (if (encGo out 0 []).2 = 0 ∧ (encGo out 0 []).1.toList = s.toList then (out, (0 : Int)) else ([], 5))
      by_cases h1 : (encGo out 0 []).2 = 0
      · rw [if_pos h1]
        by_cases h2 : (encGo out 0 []).1.toList = s.toList
        · rw [if_pos h2, if_pos ⟨h1, h2⟩]
        · rw [if_neg h2, if_neg (fun h => h2 h.2)]
      · rw [if_neg h1, if_neg (fun h => h1 h.1)]
    | cons c t =>
      have hcl := c.toNat_lt
      simp only [List.length_cons] at hql hm hout
      obtain ⟨p, hp⟩ : ∃ p, s.size - (c :: t).length = p := ⟨_, rfl⟩
      have hpq : p = q.length := by rw [← hp, List.length_cons]; omega
      have hd : s.data.toList.drop p = c :: t := by rw [hq, hpq, List.drop_left]
      have hps : p < s.size := by omega
      have hbt : bt s (p : Int) = (c.toNat : Int) := by
        rw [bt_nat s p (by omega)]
        have h1 := List.drop_eq_getElem_cons (show p < s.data.toList.length by omega)
        rw [hd] at h1
        injection h1 with h1 _
        rw [← h1]
      have hp1 := Aside0.mk (show wrap64 ((p : Int) + 1) = ((p + 1 : Nat) : Int) by rw [wrap_id _ (by omega) (by omega)]; omega)
      have E := Aside0.mk (tag_tdiv c.toNat hcl)
      have hd1 : s.data.toList.drop (p + 1) = t := by
        have : s.data.toList.drop (p + 1) = (s.data.toList.drop p).drop 1 := by rw [List.drop_drop]
        rw [this, hd]
        rfl
      simp only [aquiferref04_Decode.l0]
      rw [hp, if_pos (by omega), if_pos (by omega), hbt, E.out.1, E.out.2, hp1.out]
      refine l1_ok s hs out p (c.toNat / 2) (c.toNat % 2) _ (20 * m + 2 * 65536 + 101) 9 (p + 1) 0 1 1 k (by omega) (by omega) (by omega) (fun _ => ⟨rfl, by decide, by decide, by decide, by decide⟩) ?_ ?_ (by omega)
      · intro h
        rw [hd1] at h
        rw [refD, h]
      · intro v u h k' hk'
        rw [hd1] at h
        obtain ⟨pre, ht, hpre, hv0⟩ := refN_pre 9 1 0 v t u h (by decide) (by decide)
        have hv := refN_lt 9 1 0 v t u h (by decide) (by decide)
        rw [mul9] at hv
        obtain ⟨k', rfl⟩ : ∃ g, k' = g + 1 := ⟨k' - 1, by omega⟩
        have hlt : t.length = pre.length + u.length := by rw [ht, List.length_append]
        rw [refD, h]
        refine j4_ok s hs out p c t u pre v k' (by omega) (by omega) hd hps ht hv0 hv m ?_
        intro out' u' hu ho
        obtain ⟨q', hu⟩ := hu
        have hul : u.length = q'.length + u'.length := by rw [hu, List.length_append]
        exact ih out' u' k' ⟨q ++ c :: pre ++ q', by rw [hq, ht, hu]; simp⟩ (by omega) (by omega) (by omega)
theorem refdec_fn (s : ByteArray) (hs : s.size ≤ 65536) (k : Nat) (hk : 20 * (s.size + 1) + 2 * 65536 + 100 ≤ k) : aquiferref04_Decode.f k s = some (decS s) := by
  have hsl : s.data.toList.length = s.size := by simp
  unfold aquiferref04_Decode.f
  rw [if_neg (by omega)]
  have := l0_ok s hs (s.size + 1) [] s.data.toList k ⟨[], rfl⟩ (by omega) (by simp only [List.length_nil]; omega) hk
  rw [hsl, Nat.sub_self] at this
  rw [← refD_dec s hs (s.size + 1) (by omega)]
  exact this
theorem FieldReads_pure (a0 : ByteArray) (_h : a0.size ≤ 140737488351232) : ∃ k, aquiferlaw04_FieldReads.f k a0 = some true := by
  suffices hh : ∀ k, 300000 ≤ k → aquiferlaw04_FieldReads.f k a0 = some true from ⟨300000, hh 300000 (Nat.le_refl _)⟩
  intro k hk
  have hm : 0 ≤ mn (a0.size : Int) 6000 ∧ mn (a0.size : Int) 6000 ≤ (a0.size : Int) ∧ mn (a0.size : Int) 6000 ≤ 6000 := by unfold mn; split <;> omega
  unfold aquiferlaw04_FieldReads.f
  rw [if_pos hm.1, if_pos hm.2.1]
  have hsz : (a0.extract 0 (mn (a0.size : Int) 6000).toNat).size ≤ 6000 := by rw [ByteArray.size_extract]; omega
  generalize a0.extract 0 (mn (a0.size : Int) 6000).toNat = s at hsz
  have hlen : (decS s).1.length ≤ 6000 := by
    rcases decS_total s with h0 | h0
    · obtain ⟨M, e, hd⟩ : ∃ M e, decS s = (M, e) := ⟨_, _, rfl⟩
      rw [hd] at h0 ⊢
      simp only at h0
      subst h0
      obtain ⟨_, _, hM⟩ := (decS_iff s M).1 hd
      have h1 := flat_ge M
      have h2 : s.size = (flat M).length := by rw [hM, size_mkS]
      show M.length ≤ 6000
      omega
    · rw [h0]
      decide
  rw [dec_fn, Option.bind_some, refdec_fn s (by omega) k (by omega), Option.bind_some, same_refl _ (by omega) k (by omega), Option.bind_some, if_pos rfl, if_pos rfl, works_fn k (by omega), Option.bind_some]
end Go.Proofs.Ytinibpncbhmchaa.Q
