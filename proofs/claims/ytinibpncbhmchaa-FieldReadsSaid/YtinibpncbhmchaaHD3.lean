import Derived.Test.YtinibpncbhmchaaHD2
namespace Go.Proofs.Ytinibpncbhmchaa.Q
open Go Go.RowKit Go.Proofs.YtinibpncbhmchaaW.PrintWords Go.Proofs.YtinibpncbhmchaaW.PrintLast Go.Proofs.YtinibpncbhmchaaW.PrintMore
theorem numR_nil (f sh : Nat) (m : Int) : numR (f + 1) sh m [] = ((0, false), []) := rfl
theorem numR_cons (f sh : Nat) (m : Int) (c : UInt8) (t : List UInt8) : numR (f + 1) sh m (c :: t) =
    if c < 128 then ((m + (c.toNat : Int) * 2 ^ sh, (decide (0 < c.toNat) || sh == 0) && decide (m + (c.toNat : Int) * 2 ^ sh ≤ 4611686018427387904)), t)
      else numR f (sh + 7) (m + ((c.toNat % 128 : Nat) : Int) * 2 ^ sh) t := rfl
set_option maxRecDepth 100000 in
theorem num_any (w w1 : World) (b : Nat) (l : List UInt8) (h : Rst w w1 b l) :
    Calls Try.prog 35 #[.pointer (some ⟨b, 0, none⟩)] w1 fun e w' => e = .returned (.tuple #[.int .i64 (numR 9 0 0 l).1.1, .bool (numR 9 0 0 l).1.2]) ∧ Rst w w' b (numR 9 0 0 l).2 := by
  have H0 := Aside0.mk h
  clear h
  go_enter Try.func35, Try.ntmps35
  go_wp2
  go_loopw [4, 5] (fun n sh wr => ∃ (j : Nat) (m : Int) (l' : List UInt8), j ≤ 9 ∧ n = .int .i64 m ∧ sh = .int .i64 (7 * (j : Int)) ∧ Aside0 (0 ≤ m ∧ m < 2 ^ (7 * j)) ∧ Aside0 (numR (9 - j) (7 * j) m l' = numR 9 0 0 l) ∧ Aside0 (Rst w wr b l')) (fun _ sh _ => 63 - (intOf sh).toNat)
  case atStart => exact ⟨0, 0, l, by omega, rfl, rfl, ⟨by decide⟩, ⟨rfl⟩, H0⟩
  case round =>
    obtain ⟨j, m, l', hj, rfl, rfl, HM, HN, HR⟩ := hrel
    by_cases hj9 : j < 9
    · cases l' with
      | nil =>
        go_wp2_with (go_at_call 34; refine (byte_any w _ b [] HR.out).mono ?_; rintro e w' ⟨rfl, HR'⟩)
        go_ret2
        rw [← HN.out, show 9 - j = (8 - j) + 1 by omega, numR_nil]
        exact ⟨rfl, HR'⟩
      | cons c t =>
        obtain ⟨e1, e2, e3⟩ := num_step j hj9 m HM.out.1 HM.out.2 c
        obtain ⟨x, hx⟩ : ∃ x, m + ((c.toNat % 128 : Nat) : Int) * 2 ^ (7 * j) = x := ⟨_, rfl⟩
        rw [hx] at e1 e2 e3
        have HX := Aside0.mk hx
        have HE := Aside0.mk e3
        clear hx e3
        by_cases hc : (c.toNat : Int) < 128
        · have hx' : x = m + (c.toNat : Int) * 2 ^ (7 * j) := by rw [← HX.out, Nat.mod_eq_of_lt (by omega)]
          have hN := HN.out
          rw [show 9 - j = (8 - j) + 1 by omega, numR_cons, if_pos (by rw [UInt8.lt_iff_toNat_lt]; show c.toNat < 128; omega), ← hx'] at hN
          have HN' := Aside0.mk hN
          clear hN hx' HX HN HE
          by_cases hc0 : 0 < c.toNat
          · have b1 : decide (0 < c.toNat) = true := decide_eq_true hc0
            by_cases hm : x ≤ 4611686018427387904
            all_goals
              go_wp2_with (go_at_call 34; refine (byte_any w _ b (c :: t) HR.out).mono ?_; rintro e w' ⟨rfl, HR'⟩)
              go_ret2
              rw [← HN'.out]
              exact ⟨by simp [hc0, hm], HR'⟩
          · have b1 : decide (0 < c.toNat) = false := decide_eq_false hc0
            have b2 : c.toNat = 0 := by omega
            have e0 : bits .or .i64 m (wrap64 (wrap64 (bits .and .u8 0 127) * 2 ^ (7 * j))) = x := by rw [← e1, b2]; rfl
            by_cases hj0 : j = 0
            · subst hj0
              have e9 : bits .or .i64 m (wrap64 (wrap64 (bits .and .u8 0 127))) = x := by simpa using e0
              by_cases hm : x ≤ 4611686018427387904
              all_goals
                go_wp2_with (go_at_call 34; refine (byte_any w _ b (c :: t) HR.out).mono ?_; rintro e w' ⟨rfl, HR'⟩)
                go_ret2
                rw [← HN'.out]
                exact ⟨by simp [hm], HR'⟩
            · go_wp2_with (go_at_call 34; refine (byte_any w _ b (c :: t) HR.out).mono ?_; rintro e w' ⟨rfl, HR'⟩)
              go_ret2
              rw [← HN'.out]
              exact ⟨by simp [b2]; omega, HR'⟩
        · go_wp2_with (go_at_call 34; refine (byte_any w _ b (c :: t) HR.out).mono ?_; rintro e w' ⟨rfl, HR'⟩)
          go_roundw
          case rel => exact ⟨j + 1, x, t, by omega, rfl, by go_num, ⟨e2, HE.out⟩, ⟨by rw [← HN.out, show 9 - j = (8 - j) + 1 by omega, numR_cons, if_neg (by rw [UInt8.lt_iff_toNat_lt]; show ¬ c.toNat < 128; omega), HX.out, show 9 - (j + 1) = 8 - j by omega]; rfl⟩, ⟨HR'⟩⟩
          case measure => simp [intOf]; omega
    · obtain rfl : j = 9 := by omega
      go_wp2
      go_ret2
      rw [← HN.out]
      exact ⟨rfl, HR.out⟩
end Go.Proofs.Ytinibpncbhmchaa.Q
