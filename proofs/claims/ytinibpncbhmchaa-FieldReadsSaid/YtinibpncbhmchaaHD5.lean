import Derived.Test.YtinibpncbhmchaaHD4
namespace Go.Proofs.Ytinibpncbhmchaa.Q
open Go Go.RowKit Go.Proofs.YtinibpncbhmchaaW.PrintWords Go.Proofs.YtinibpncbhmchaaW.PrintLast Go.Proofs.YtinibpncbhmchaaW.PrintMore
set_option linter.unusedSimpArgs false
set_option linter.unusedVariables false
theorem numR_rest (f sh : Nat) (m : Int) (l : List UInt8) : (numR f sh m l).2.length ≤ l.length := by
  induction f generalizing sh m l with
  | zero => exact Nat.le_refl _
  | succ f ih =>
    cases l with
    | nil => exact Nat.le_refl _
    | cons c t =>
      rw [numR_cons]
      split
      · exact Nat.le_succ _
      · exact Nat.le_trans (ih _ _ _) (Nat.le_succ _)
theorem fldR_eq (l : List UInt8) (c : UInt8) (n : Int) (ok : Bool) (rest : List UInt8) (hc : l.headD 0 = c) (hn : numR 9 0 0 l.tail = ((n, ok), rest)) :
    fldR l = if ok = false ∨ ((c.toNat / 2 : Nat) : Int) < 1 ∨ ((c.toNat / 2 : Nat) : Int) > 63 then ((⟨(c.toNat / 2 : Nat), (c.toNat % 2 : Nat), 0, mkS []⟩, false), rest)
    else if ((c.toNat % 2 : Nat) : Int) = 0 then ((⟨(c.toNat / 2 : Nat), (c.toNat % 2 : Nat), n, mkS []⟩, true), rest)
    else if n > (rest.length : Int) ∨ n > 4096 then ((⟨(c.toNat / 2 : Nat), (c.toNat % 2 : Nat), 0, mkS []⟩, false), rest)
    else ((⟨(c.toNat / 2 : Nat), (c.toNat % 2 : Nat), 0, mkS (rest.take n.toNat)⟩, true), rest.drop n.toNat) := by
  unfold fldR
  simp only [hc, hn]
theorem fldR_rest (c : UInt8) (t : List UInt8) : (fldR (c :: t)).2.length ≤ t.length := by
  have h := numR_rest 9 0 0 t
  rw [fldR_eq (c :: t) c (numR 9 0 0 t).1.1 (numR 9 0 0 t).1.2 (numR 9 0 0 t).2 rfl rfl]
  generalize numR 9 0 0 t = q at h
  obtain ⟨⟨n, ok⟩, rest⟩ := q
  simp only at h ⊢
  split
  · exact h
  · split
    · exact h
    · split
      · exact h
      · show (List.drop _ _).length ≤ _
        rw [List.length_drop]
        omega
theorem decR_nil (k : Nat) (ahead : Int) (out : List S39) : decR (k + 1) ahead out [] = (out, 0) := rfl
theorem decR_cons (k : Nat) (ahead : Int) (out : List S39) (c : UInt8) (t : List UInt8) : decR (k + 1) ahead out (c :: t) =
    if (fldR (c :: t)).1.2 = false ∨ (fldR (c :: t)).1.1.f0 < ahead then ([], 5) else decR k (fldR (c :: t)).1.1.f0 (out ++ [(fldR (c :: t)).1.1]) (fldR (c :: t)).2 := rfl
set_option maxHeartbeats 1000000 in
set_option maxRecDepth 100000 in
theorem decode_yes (s : ByteArray) (r1 : List S39) (r2 : Int) (w : World) (hs : s.size ≤ 65536) (h : decR (s.size + 1) 0 [] s.data.toList = (r1, r2)) :
    Calls Try.prog 13 #[.string s] w fun e w' => ∃ v0_ : Value, e = .returned (.tuple #[v0_, .int .i64 r2]) ∧ Kd.R k39 39 w' w.heap.size (fun _ => True) v0_ r1 ∧ Below w.heap.size w w' := by
  have H := Aside0.mk h
  have hl : s.data.toList.length = s.size := by simp
  have HL := Aside0.mk hl
  obtain ⟨K, hK⟩ : ∃ K, s.size + 1 = K := ⟨_, rfl⟩
  have HK := Aside0.mk hK
  have hS : mkS s.data.toList = s := rfl
  have b0 : decide (65536 < (s.size : Int)) = false := decide_eq_false (by omega)
  have HS := Aside0.mk hS
  clear h hl hK hS
  go_enter Try.func13, Try.ntmps13
  go_wp2_with fail
  go_loopg [4, 5, 6] K (fun kq v4 v5 v6 wr => ∃ (ahead : Int) (out : List S39) (l : List UInt8) (g : Nat), v5 = .int .i64 ahead ∧ v6 = .pointer (some ⟨g, 0, none⟩) ∧ Aside0 (l.length < kq) ∧ Aside0 (kq ≤ K) ∧ Aside0 (decR kq ahead out l = (r1, r2)) ∧ Aside0 (Rst wr wr g l) ∧
    Aside0 (w.heap.size ≤ g) ∧ Aside0 (Kd.R k39 39 wr w.heap.size (fun _ => True) v4 out) ∧ Aside0 (Below w.heap.size w wr) ∧ Aside0 (out.length + l.length ≤ 65536))
  case atStart =>
    refine ⟨0, [], s.data.toList, w.heap.size, rfl, rfl, ⟨by rw [HL.out, ← HK.out]; omega⟩, ⟨Nat.le_refl _⟩, ⟨by rw [← HK.out]; exact H.out⟩, ⟨Rst.refl ?_⟩, ⟨Nat.le_refl _⟩, ⟨Kd.R_nil _ _ _ _ _⟩, ⟨(Below.refl _ _).alloc (Nat.le_refl _) _⟩, ⟨by rw [HL.out]; simpa using hs⟩⟩
    rw [HS.out]
    exact blk_new w _
  case round =>
    obtain ⟨ahead, out, l, g, rfl, rfl, HLK, HKK, HD, HR, HG, HO, HB, HX⟩ := hrel
    cases gk with
    | zero => exact absurd HLK.out (by omega)
    | succ k =>
      have hc := HR.out.cell
      have hf := HR.out.free
      cases l with
      | nil =>
        have b1 : (mkS []).toList.isEmpty = true := by rw [toList_mkS]; rfl
        have hD := HD.out
        rw [decR_nil] at hD
        injection hD with h1 h2
        subst h1 h2
        go_wp2_with fail
        go_ret2
        exact ⟨_, rfl, HO.out, HB.out⟩
      | cons c t =>
        have b1 := empty_mkS c t
        have hlt := fldR_rest c t
        have hD := HD.out
        rw [decR_cons] at hD
        have HC := field_any wr g (c :: t) HR.out
        generalize fldR (c :: t) = q at hlt hD HC
        obtain ⟨⟨⟨a0, a1, a2, a3⟩, ok⟩, rest⟩ := q
        simp only at hlt hD HC
        have HCC := Aside0.mk HC
        have HDD := Aside0.mk hD
        have HLT := Aside0.mk hlt
        clear HC hD hlt
        cases ok with
        | false =>
          have hD := HDD.out
          rw [if_pos (.inl rfl)] at hD
          injection hD with h1 h2
          subst h1 h2
          go_wp2_with (go_at_call 28; refine HCC.out.mono ?_; rintro e w1 ⟨rfl, HR1⟩)
          go_ret2
          exact ⟨_, rfl, Kd.R_nil _ _ _ _ _, (HB.out.trans (HR1.bel.mono HG.out)).alloc (by have := HB.out.size; have := HR1.keep.1; omega) _⟩
        | true =>
          by_cases ca : a0 < ahead
          · have hD := HDD.out
            rw [if_pos (.inr ca)] at hD
            injection hD with h1 h2
            subst h1 h2
            have d1 : decide (a0 < ahead) = true := decide_eq_true ca
            go_wp2_with (go_at_call 28; refine HCC.out.mono ?_; rintro e w1 ⟨rfl, HR1⟩)
            go_ret2
            exact ⟨_, rfl, Kd.R_nil _ _ _ _ _, (HB.out.trans (HR1.bel.mono HG.out)).alloc (by have := HB.out.size; have := HR1.keep.1; omega) _⟩
          · have hD := HDD.out
            rw [if_neg (by rintro (h | h); cases h; exact ca h)] at hD
            have HD' := Aside0.mk hD
            have d1 : decide (a0 < ahead) = false := decide_eq_false ca
            clear hD HDD
            go_wp2_with fail
            refine HCC.out.mono ?_
            rintro e w1 ⟨rfl, HR1⟩
            have hO := Kd.R_keep (Kd.R_types HO.out HR.out.blk (by decide)) HR1.keep (fun _ hk => hk.2)
            have hO1 := Kd.R_mono hO (ok' := fun _ => True) (fun _ _ => trivial)
            have hB1 := HB.out.trans (HR1.bel.mono HG.out)
            have HO1 := Aside0.mk hO1
            have HB1 := Aside0.mk hB1
            have HRR := Aside0.mk HR1
            clear hO hO1 hB1 HR1
            obtain ⟨y, hy⟩ : ∃ y, y = out ++ [(⟨a0, a1, a2, a3⟩ : S39)] := ⟨_, rfl⟩
            have HY := Aside0.mk hy
            clear hy
            go_wp2_with (first | ((with_reducible refine gate_builtin (b := .append) (xs := #[.tmp 29, .tmp 31]) rfl ?_); at_builtin; refine Kd.R_append k39 (w0 := w) w.heap.size rfl (.tmp 29) (.tmp 31) 22 39 (.agg #[(.int .i64 0), (.int .i64 0), (.int .i64 0), (.string ⟨#[]⟩)]) 40 rfl Try.underlying22 info39 rfl (by decide) (by omega) _ out (⟨a0, a1, a2, a3⟩ : S39) [.int .i64 a0, .int .i64 a1, .int .i64 a2, .string a3] (fun _ => True) (fun _ => False) rfl (by first | (go_simp; done) | (go_simp; rfl)) ?aP (fun _ hk => hk.elim) (fun _ _ => trivial) ?aO ?aB ?aS ?aL ?_; (case aP => exact k39_mkM _ _ _ (⟨a0, a1, a2, a3⟩ : S39)); (case aO => exact Kd.R_alloc HO1.out _); (case aB => exact HB1.out.alloc (by have := HB1.out.size; omega) _); (case aS => have := HB1.out.size; simp; omega); (case aL => have := HX.out; simp at this; omega); intro v1 w2 ho hb hg hat; have hblk := blk_grown (blk_alloc HRR.out.blk _) hg (Kd.R_ne HO1.out HRR.out.blk (by decide)); have hc2 : w2.cell? ⟨g, 0, none⟩ = some (.string (mkS rest)) := (blk_cell hblk 0).trans rfl; have HO2 := Aside0.mk ho; have HB2 := Aside0.mk hb; clear ho hb hg hat hblk))
            go_roundg k
            case measure => exact Nat.lt_succ_self _
            case rel =>
              refine ⟨a0, out ++ [⟨a0, a1, a2, a3⟩], rest, w2.heap.size, rfl, rfl, ⟨?_⟩, ⟨?_⟩, ⟨HD'.out⟩, ⟨Rst.refl (blk_new w2 _)⟩, ⟨HB2.out.size⟩, ⟨Kd.R_alloc HO2.out _⟩, ⟨HB2.out.alloc HB2.out.size _⟩, ⟨?_⟩⟩
              · have h1 := HLT.out; have h2 := HLK.out; simp at h2; omega
              · have h1 := HKK.out; omega
              · have h1 := HLT.out; have h2 := HX.out; simp at h2 ⊢; omega
theorem decode_no (s : ByteArray) (w : World) (hs : 65536 < s.size) :
    Calls Try.prog 13 #[.string s] w fun e w' => e = .returned (.tuple #[.slice none 0 0, .int .i64 5]) ∧ w' = w := by
  have b0 : decide (65536 < (s.size : Int)) = true := decide_eq_true (by omega)
  go_enter Try.func13, Try.ntmps13
  go_wp2_with fail
  go_ret2
  exact ⟨rfl, rfl⟩
theorem field_Decode.calls (a0 : ByteArray) (r1 : List S39) (r2 : Int) (w : World) (h : field_Decode.f a0 = some (r1, r2)) :
    Calls Try.prog 13 #[.string a0] w fun e w' => ∃ v0_ : Value, e = .returned (.tuple #[v0_, .int .i64 r2]) ∧ Kd.R k39 39 w' w.heap.size (fun _ => True) v0_ r1 ∧ Below w.heap.size w w' := by
  unfold field_Decode.f at h
  by_cases hs : a0.size > 65536
  · rw [if_pos hs] at h
    injection h with h
    injection h with h1 h2
    subst h1 h2
    exact (decode_no a0 w hs).mono fun e w' ⟨he, hw⟩ => ⟨_, he, hw ▸ Kd.R_nil _ _ _ _ _, hw ▸ Below.refl _ _⟩
  · rw [if_neg hs] at h
    exact decode_yes a0 r1 r2 w (by omega) (Option.some.inj h)
end Go.Proofs.Ytinibpncbhmchaa.Q
