import Derived.Test.YtinibpncbhmchaaHD3
namespace Go.Proofs.Ytinibpncbhmchaa.Q
open Go Go.RowKit Go.Proofs.YtinibpncbhmchaaW.PrintWords Go.Proofs.YtinibpncbhmchaaW.PrintLast Go.Proofs.YtinibpncbhmchaaW.PrintMore
set_option linter.unusedSimpArgs false
set_option linter.unusedVariables false
theorem Rst.alloc {w w' : World} {b : Nat} {l : List UInt8} (h : Rst w w' b l) (o : Obj) : Rst w (w'.alloc o) b l :=
  ⟨h.bel.alloc (Nat.le_of_lt (blk_lt h.blk)) o, h.keep.trans (KeepBut.of_below ((Below.refl _ w').alloc (Nat.le_refl _) o) b none) (.inl rfl), blk_alloc h.blk o⟩
theorem Rst.self {w w' : World} {b : Nat} {l : List UInt8} (h : Rst w w' b l) : Rst w' w' b l := Rst.refl h.blk
theorem Rst.far {w w' : World} {b : Nat} {l : List UInt8} (h : Rst w w' b l) {g j : Nat} (hg : b < g) (hw : w.heap.size ≤ g) (u : Value) : Rst w (w'.setCell ⟨g, j, none⟩ u) b l :=
  ⟨h.bel.setCell (p := ⟨g, j, none⟩) (Nat.le_of_lt hg) _, ⟨by simpa [World.setCell] using h.keep.1, fun i hi hb hr => (Below.heap_setCell w' ⟨g, j, none⟩ u i (by show i ≠ g; omega)).trans (h.keep.2 i hi hb hr)⟩, blk_far h.blk (by show b ≠ g; omega) u⟩
theorem text_no (w : World) (b : Nat) (l : List UInt8) (n : Int) (h : Rst w w b l) (hn : (l.length : Int) < n ∨ 4096 < n) :
    Calls Try.prog 36 #[.pointer (some ⟨b, 0, none⟩), .int .i64 n] w fun e w' => e = .returned (.tuple #[.string (mkS []), .bool false]) ∧ w' = w := by
  have hc := h.cell
  have hs : (mkS l).size = l.length := rfl
  have hz : mkS [] = ⟨#[]⟩ := rfl
  rw [hz]
  clear hz h
  by_cases h1 : ((mkS l).size : Int) < n
  · have b1 : decide (((mkS l).size : Int) < n) = true := decide_eq_true h1
    clear hs
    go_enter Try.func36, Try.ntmps36
    go_wp2
    go_ret2
    exact ⟨rfl, rfl⟩
  · have h2 : 4096 < n := by omega
    have b1 : decide (((mkS l).size : Int) < n) = false := decide_eq_false h1
    have b2 : decide (4096 < n) = true := decide_eq_true h2
    clear hs
    go_enter Try.func36, Try.ntmps36
    go_wp2
    go_ret2
    exact ⟨rfl, rfl⟩
theorem text_yes (w : World) (b : Nat) (l : List UInt8) (n : Int) (h : Rst w w b l) (h0 : 0 ≤ n) (h1 : n ≤ l.length) (h2 : n ≤ 4096) :
    Calls Try.prog 36 #[.pointer (some ⟨b, 0, none⟩), .int .i64 n] w fun e w' => e = .returned (.tuple #[.string (mkS (l.take n.toNat)), .bool true]) ∧ w' = w.setCell ⟨b, 0, none⟩ (.string (mkS (l.drop n.toNat))) := by
  have hc := h.cell
  have hf := h.free
  have HT := Aside0.mk (take_mkS l n.toNat)
  have HD := Aside0.mk (drop_mkS l n.toNat)
  have h1' : n ≤ ((mkS l).size : Int) := h1
  have b1 : decide (((mkS l).size : Int) < n) = false := decide_eq_false (by omega)
  have b2 : decide (4096 < n) = false := decide_eq_false (by omega)
  have h3 : (0 ≤ n) = True := eq_true h0
  have h4 : (n ≤ ((mkS l).size : Int)) = True := eq_true h1'
  clear h h1
  go_enter Try.func36, Try.ntmps36
  go_wp2
  go_ret2
  exact ⟨by rw [HT.out]; rfl, by rw [HD.out]⟩
theorem text_any (w : World) (b : Nat) (l : List UInt8) (n : Int) (h : Rst w w b l) (h0 : 0 ≤ n) :
    Calls Try.prog 36 #[.pointer (some ⟨b, 0, none⟩), .int .i64 n] w fun e w' => e = .returned (.tuple #[.string (if n > (l.length : Int) ∨ n > 4096 then mkS [] else mkS (l.take n.toNat)), .bool (if n > (l.length : Int) ∨ n > 4096 then false else true)]) ∧
      Rst w w' b (if n > (l.length : Int) ∨ n > 4096 then l else l.drop n.toNat) := by
  by_cases hn : n > (l.length : Int) ∨ n > 4096
  · rw [if_pos hn, if_pos hn, if_pos hn]
    exact (text_no w b l n h hn).mono fun e w' ⟨he, hw⟩ => ⟨he, hw ▸ h⟩
  · rw [if_neg hn, if_neg hn, if_neg hn]
    exact (text_yes w b l n h h0 (by omega) (by omega)).mono fun e w' ⟨he, hw⟩ => ⟨he, hw ▸ h.set⟩
theorem numR_nonneg (f sh : Nat) (m : Int) (l : List UInt8) (h : 0 ≤ m) : 0 ≤ (numR f sh m l).1.1 := by
  induction f generalizing sh m l with
  | zero => exact Int.le_refl 0
  | succ f ih =>
    cases l with
    | nil => exact Int.le_refl 0
    | cons c t =>
      have hp : (0 : Int) ≤ 2 ^ sh := Int.pow_nonneg (by decide)
      rw [numR_cons]
      split
      · exact Int.add_nonneg h (Int.mul_nonneg (Int.natCast_nonneg _) hp)
      · exact ih _ _ _ (Int.add_nonneg h (Int.mul_nonneg (Int.natCast_nonneg _) hp))
theorem tag_of (c : UInt8) : wrap64 ((c.toNat : Int) / 2) = ((c.toNat / 2 : Nat) : Int) := by
  have := c.toNat_lt
  unfold wrap64
  omega
theorem kind_of (c : UInt8) : wrap64 (bits .and .u8 (c.toNat : Int) 1) = ((c.toNat % 2 : Nat) : Int) := by
  have hc : c.toNat < 256 := c.toNat_lt
  have h := bits_mask .u8 8 (by decide) wraps_u8 1 (by decide) (c.toNat : Int) (by omega) (by omega)
  have h2 : bits .and .u8 (c.toNat : Int) 1 = ((c.toNat % 2 : Nat) : Int) := by simpa using h
  rw [h2]
  unfold wrap64
  omega
theorem blk4 {w : World} {g t : Nat} {a b c d : Value} (h : w.heap[g]? = some (.cells #[a, b, c, d] t (0, 0))) :
    w.cell? ⟨g, 0, none⟩ = some a ∧ w.cell? ⟨g, 1, none⟩ = some b ∧ w.cell? ⟨g, 2, none⟩ = some c ∧ w.cell? ⟨g, 3, none⟩ = some d ∧ (∀ j, w.frozen? ⟨g, j, none⟩ = false) :=
  ⟨(blk_cell h 0).trans rfl, (blk_cell h 1).trans rfl, (blk_cell h 2).trans rfl, (blk_cell h 3).trans rfl, fun j => blk_frozen h j⟩
/-- A field is read. -/
theorem field_any (w : World) (b : Nat) (l : List UInt8) (h : Rst w w b l) :
    Calls Try.prog 28 #[.pointer (some ⟨b, 0, none⟩)] w fun e w' => e = .returned (.tuple #[.agg #[.int .i64 (fldR l).1.1.f0, .int .i64 (fldR l).1.1.f1, .int .i64 (fldR l).1.1.f2, .string (fldR l).1.1.f3], .bool (fldR l).1.2]) ∧ Rst w w' b (fldR l).2 := by
  have hb : b < w.heap.size := blk_lt h.blk
  have H0 := Aside0.mk h
  clear h
  obtain ⟨c, hc⟩ : ∃ c, l.headD 0 = c := ⟨_, rfl⟩
  obtain ⟨n, ok, rest, hnum⟩ : ∃ n ok rest, numR 9 0 0 l.tail = ((n, ok), rest) := ⟨_, _, _, rfl⟩
  obtain ⟨tg, htg⟩ : ∃ x : Int, ((c.toNat / 2 : Nat) : Int) = x := ⟨_, rfl⟩
  obtain ⟨kd, hkd⟩ : ∃ x : Int, ((c.toNat % 2 : Nat) : Int) = x := ⟨_, rfl⟩
  have et := tag_of c
  have ek := kind_of c
  rw [htg] at et
  rw [hkd] at ek
  have hn0 : 0 ≤ n := by have := numR_nonneg 9 0 0 l.tail (by decide); rw [hnum] at this; exact this
  have HF := Aside0.mk (show fldR l = if ok = false ∨ tg < 1 ∨ tg > 63 then ((⟨tg, kd, 0, mkS []⟩, false), rest)
    else if kd = 0 then ((⟨tg, kd, n, mkS []⟩, true), rest)
    else if n > (rest.length : Int) ∨ n > 4096 then ((⟨tg, kd, 0, mkS []⟩, false), rest)
    else ((⟨tg, kd, 0, mkS (rest.take n.toNat)⟩, true), rest.drop n.toNat) by
      unfold fldR
      simp only [hc, hnum, htg, hkd])
  have HB1 := fun W => byte_any W W b l
  rw [hc] at HB1
  have HN := fun W W1 => num_any W W1 b l.tail
  rw [hnum] at HN
  have HB := Aside0.mk HB1
  have HN1 := Aside0.mk HN
  clear hc hnum htg hkd HB1 HN
  go_enter Try.func28, Try.ntmps28
  go_wp2_with fail
  refine (HB.out _ (H0.out.alloc _).self).mono ?_
  rintro e w1 ⟨rfl, HR1⟩
  have HA := Aside0.mk HR1
  have hlt : w.heap.size < w1.heap.size := by have := HR1.keep.1; simp at this; omega
  clear HR1
  go_wp2_with fail
  refine (HN1.out _ _ (HA.out.alloc _).self).mono ?_
  rintro e w2 ⟨rfl, HR2⟩
  have hg2 := HR2.keep.blk (blk_new w1 _) (by omega) (by simp)
  have hg1 := HR2.keep.blk (blk_alloc (HA.out.keep.blk (blk_new w _) (by omega) (by simp)) _) (by omega) (by simp)
  obtain ⟨p0, p1, p2, p3, pf⟩ := blk4 hg2
  obtain ⟨q0, q1, q2, q3, qf⟩ := blk4 hg1
  have HC := Aside0.mk HR2
  have HG1 := Aside0.mk hg1
  have HG2 := Aside0.mk hg2
  clear HR2 hg1 hg2
  have HW := Aside0.mk ((((H0.out.alloc _).trans HA.out).alloc _).trans HC.out)
  have R1 := fun j u => HW.out.far (g := w.heap.size) (j := j) hb (Nat.le_refl _) u
  clear R1
  have hb2 : b < w1.heap.size := by omega
  cases ok with
  | false =>
    go_wp2_with fail
    refine bodyPost_ret (v := .tuple #[.agg #[.int .i64 tg, .int .i64 kd, .int .i64 0, .string ⟨#[]⟩], .bool false]) (by simp [results, Try.results28, go_sem, p0, p1, p2, p3, pf, q0, q1, q2, q3, qf]) rfl ⟨?_, ?_⟩
    · rw [HF.out, if_pos (show True ∨ tg < 1 ∨ tg > 63 from .inl trivial)]
      rfl
    · rw [HF.out, if_pos (show True ∨ tg < 1 ∨ tg > 63 from .inl trivial)]
      exact (((HW.out.far hb (Nat.le_refl _) _).far hb (Nat.le_refl _) _).far hb (Nat.le_refl _) _).far hb (Nat.le_refl _) _
  | true =>
    by_cases c1 : tg < 1
    · have d1 : decide (tg < 1) = true := decide_eq_true c1
      go_wp2_with fail
      refine bodyPost_ret (v := .tuple #[.agg #[.int .i64 tg, .int .i64 kd, .int .i64 0, .string ⟨#[]⟩], .bool false]) (by simp [results, Try.results28, go_sem, p0, p1, p2, p3, pf, q0, q1, q2, q3, qf]) rfl ⟨?_, ?_⟩
      · rw [HF.out, if_pos (.inr (.inl c1))]
        rfl
      · rw [HF.out, if_pos (.inr (.inl c1))]
        exact (((HW.out.far hb (Nat.le_refl _) _).far hb (Nat.le_refl _) _).far hb (Nat.le_refl _) _).far hb (Nat.le_refl _) _
    · have d1 : decide (tg < 1) = false := decide_eq_false c1
      by_cases c2 : 63 < tg
      · have d2 : decide (63 < tg) = true := decide_eq_true c2
        go_wp2_with fail
        refine bodyPost_ret (v := .tuple #[.agg #[.int .i64 tg, .int .i64 kd, .int .i64 0, .string ⟨#[]⟩], .bool false]) (by simp [results, Try.results28, go_sem, p0, p1, p2, p3, pf, q0, q1, q2, q3, qf]) rfl ⟨?_, ?_⟩
        · rw [HF.out, if_pos (.inr (.inr c2))]
          rfl
        · rw [HF.out, if_pos (.inr (.inr c2))]
          exact (((HW.out.far hb (Nat.le_refl _) _).far hb (Nat.le_refl _) _).far hb (Nat.le_refl _) _).far hb (Nat.le_refl _) _
      · have d2 : decide (63 < tg) = false := decide_eq_false c2
        have HF' := Aside0.mk (HF.out.trans (if_neg (by rintro (h | h | h) <;> first | cases h | omega)))
        clear HF
        have hs2 : w.heap.size ≤ w1.heap.size := Nat.le_of_lt hlt
        by_cases c3 : kd = 0
        · subst c3
          go_wp2_with fail
          refine bodyPost_ret (v := .tuple #[.agg #[.int .i64 tg, .int .i64 0, .int .i64 n, .string ⟨#[]⟩], .bool true]) (by simp [results, Try.results28, go_sem, p0, p1, p2, p3, pf, q0, q1, q2, q3, qf]) rfl ⟨?_, ?_⟩
          · rw [HF'.out, if_pos trivial]
            rfl
          · rw [HF'.out, if_pos trivial]
            exact ((((HW.out.far hb2 hs2 _).far hb (Nat.le_refl _) _).far hb (Nat.le_refl _) _).far hb (Nat.le_refl _) _).far hb (Nat.le_refl _) _
        · have d3 : (kd == 0) = false := beq_eq_false_iff_ne.mpr c3
          have HT := fun W h => text_any W b rest n h hn0
          by_cases c4 : n > (rest.length : Int) ∨ n > 4096
          · simp only [if_pos c4] at HT
            have HT' := Aside0.mk HT
            have HF2 := Aside0.mk (HF'.out.trans ((if_neg c3).trans (if_pos c4)))
            clear HT HF' c4 c3
            go_wp2_with fail
            refine (HT'.out _ HC.out.self).mono ?_
            rintro e w3 ⟨rfl, HR3⟩
            have hg2 := HR3.keep.blk HG2.out (by omega) (by simp)
            have hg1 := HR3.keep.blk HG1.out (by omega) (by simp)
            clear p0 p1 p2 p3 pf q0 q1 q2 q3 qf
            obtain ⟨p0, p1, p2, p3, pf⟩ := blk4 hg2
            obtain ⟨q0, q1, q2, q3, qf⟩ := blk4 hg1
            have HW3 := Aside0.mk (HW.out.trans HR3)
            clear HR3 hg1 hg2
            go_wp2_with fail
            refine bodyPost_ret (v := .tuple #[.agg #[.int .i64 tg, .int .i64 kd, .int .i64 0, .string (mkS [])], .bool false]) (by simp [results, Try.results28, go_sem, p0, p1, p2, p3, pf, q0, q1, q2, q3, qf]) rfl ⟨?_, ?_⟩
            · (rw [HF2.out]; try rfl)
            · rw [HF2.out]
              exact ((((HW3.out.far hb2 hs2 _).far hb (Nat.le_refl _) _).far hb (Nat.le_refl _) _).far hb (Nat.le_refl _) _).far hb (Nat.le_refl _) _
          · simp only [if_neg c4] at HT
            have HT' := Aside0.mk HT
            have HF2 := Aside0.mk (HF'.out.trans ((if_neg c3).trans (if_neg c4)))
            clear HT HF' c4 c3
            go_wp2_with fail
            refine (HT'.out _ HC.out.self).mono ?_
            rintro e w3 ⟨rfl, HR3⟩
            have hg2 := HR3.keep.blk HG2.out (by omega) (by simp)
            have hg1 := HR3.keep.blk HG1.out (by omega) (by simp)
            clear p0 p1 p2 p3 pf q0 q1 q2 q3 qf
            obtain ⟨p0, p1, p2, p3, pf⟩ := blk4 hg2
            obtain ⟨q0, q1, q2, q3, qf⟩ := blk4 hg1
            have HW3 := Aside0.mk (HW.out.trans HR3)
            clear HR3 hg1 hg2
            go_wp2_with fail
            refine bodyPost_ret (v := .tuple #[.agg #[.int .i64 tg, .int .i64 kd, .int .i64 0, .string (mkS (rest.take n.toNat))], .bool true]) (by simp [results, Try.results28, go_sem, p0, p1, p2, p3, pf, q0, q1, q2, q3, qf]) rfl ⟨?_, ?_⟩
            · rw [HF2.out]
            · rw [HF2.out]
              exact ((((HW3.out.far hb2 hs2 _).far hb (Nat.le_refl _) _).far hb (Nat.le_refl _) _).far hb (Nat.le_refl _) _).far hb (Nat.le_refl _) _
end Go.Proofs.Ytinibpncbhmchaa.Q
