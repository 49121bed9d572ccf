import Derived.Test.YtinibpncbhmchaaPF
import Derived.WalkSpells
import Derived.WalkLawsBesides
import Derived.Test.YtinibpncbhmchaaPG
import Derived.RangeFuncBox
section
namespace Go.Proofs.Ytinibpncbhmchaa.Q
open Go Go.RowKit Go.Proofs.YtinibpncbhmchaaW.PrintWords Go.Proofs.YtinibpncbhmchaaW.PrintLast Go.Proofs.YtinibpncbhmchaaW.PrintMore
set_option linter.unusedSimpArgs false
set_option linter.unusedVariables false
theorem put1_any (w : World) (b : Nat) (x f : S39) (h : w.heap[b]? = some (.cells #[.int .i64 f.f0, .int .i64 f.f1, .int .i64 f.f2, .string f.f3] 39 (0, 0))) :
    Calls Try.prog 30 #[.agg #[.int .i64 x.f0, .int .i64 x.f1, .int .i64 x.f2, .string x.f3], .pointer (some ⟨b, 0, none⟩)] w fun e w' => e = .returned (.bool (decide (f.f0 < x.f0))) ∧ Below w.heap.size w w' := by
  have hb : b < w.heap.size := blk_lt h
  have hc : w.cell? ⟨b, 0, none⟩ = some (.int .i64 f.f0) := (blk_cell h 0).trans rfl
  have H := Aside0.mk h
  clear h
  go_enter Try.func30, Try.ntmps30
  go_wp2_with fail
  go_ret
  exact ⟨rfl, (Below.refl _ _).alloc (Nat.le_refl _) _⟩
/-- Where the first field of a greater tag stands. -/
def idxR (t : Int) : Nat → List S39 → Int
  | _, [] => -1
  | i, x :: l => if t < x.f0 then (i : Int) else idxR t (i + 1) l
set_option maxRecDepth 100000 in
theorem index_any (w : World) (b : Nat) (f : S39) (A : Option Addr) (c : Nat) (l : List S39) (hr : Kd.C k39 w A l.length l) (hl : l.length ≤ 140737488351232) (h : w.heap[b]? = some (.cells #[.int .i64 f.f0, .int .i64 f.f1, .int .i64 f.f2, .string f.f3] 39 (0, 0))) :
    Calls Try.prog 29 #[.slice A l.length c, .func (.func 30) #[] #[.pointer (some ⟨b, 0, none⟩)]] w fun e w' => e = .returned (.int .i64 (idxR f.f0 0 l)) ∧ Below w.heap.size w w' := by
  have H := Aside0.mk h
  have HR := Aside0.mk hr
  have HB0 := Aside0.mk (Below.refl w.heap.size w)
  clear h hr
  have hu39 := Try.underlying39
  go_enter Try.func29, Try.ntmps29
  go_wp2_with fail
  go_loopw [8] (fun i wr => ∃ j : Nat, j ≤ l.length ∧ i = .int .i64 (j : Int) ∧ Aside0 (idxR f.f0 j (l.drop j) = idxR f.f0 0 l) ∧ Aside0 (Below w.heap.size w wr)) (fun i _ => l.length - (intOf i).toNat)
  case atStart => exact ⟨0, Nat.zero_le _, rfl, ⟨rfl⟩, HB0⟩
  case round =>
    obtain ⟨j, hj, rfl, HI, HB⟩ := hrel
    by_cases hlt : j < l.length
    · obtain ⟨ad, e, x0, x1, x2, x3⟩ := at_T39 HR.out (j : Int) (by omega) (by omega)
      subst e
      have hx : rd_T39 l (j : Int) = l[j] := by simp [rd_T39, hlt]
      rw [hx, Int.toNat_natCast] at x0 x1 x2 x3
      have hd := List.drop_eq_getElem_cons hlt
      generalize l[j] = x at x0 x1 x2 x3 hd
      have HD := Aside0.mk hd
      clear hx hd
      replace x0 := (HB.out.cell (World.block_lt_of_cell? w _ x0)).trans x0
      replace x1 := (HB.out.cell (World.block_lt_of_cell? w _ x1)).trans x1
      replace x2 := (HB.out.cell (World.block_lt_of_cell? w _ x2)).trans x2
      replace x3 := (HB.out.cell (World.block_lt_of_cell? w _ x3)).trans x3
      have hbx := (HB.out.block b (blk_lt H.out)).trans H.out
      have HBX := Aside0.mk hbx
      clear hbx
      by_cases ht : f.f0 < x.f0
      · have hI := HI.out
        rw [HD.out] at hI
        simp only [idxR] at hI
        rw [if_pos ht] at hI
        have HI' := Aside0.mk hI
        have hp := fun W h => put1_any W b x f h
        rw [decide_eq_true ht] at hp
        have HP := Aside0.mk hp
        clear hI HI hp
        go_wp2_with fail
        refine (HP.out _ HBX.out).mono ?_
        rintro e w1 ⟨rfl, hb1⟩
        go_wp2_with fail
        go_ret
        exact ⟨by rw [HI'.out]; rfl, below_step HB.out hb1⟩
      · have hI := HI.out
        rw [HD.out] at hI
        simp only [idxR] at hI
        rw [if_neg ht] at hI
        have HI' := Aside0.mk hI
        have hp := fun W h => put1_any W b x f h
        rw [decide_eq_false ht] at hp
        have HP := Aside0.mk hp
        clear hI HI hp
        go_wp2_with fail
        refine (HP.out _ HBX.out).mono ?_
        rintro e w1 ⟨rfl, hb1⟩
        go_wp2_with fail
        go_roundw
        case rel => exact ⟨j + 1, by omega, by go_num, HI', ⟨below_step HB.out hb1⟩⟩
        case measure => simp [intOf]; omega
    · have hI := HI.out
      rw [List.drop_of_length_le (by omega)] at hI
      have HI' := Aside0.mk hI
      clear hI HI
      go_wp2_with fail
      go_ret
      exact ⟨by rw [← HI'.out]; rfl, HB.out⟩
end Go.Proofs.Ytinibpncbhmchaa.Q
end
section
namespace Go.Proofs.Ytinibpncbhmchaa.Q
open Go Go.RowKit Go.Proofs.YtinibpncbhmchaaW.PrintWords Go.Proofs.YtinibpncbhmchaaW.PrintLast Go.Proofs.YtinibpncbhmchaaW.PrintMore
set_option linter.unusedSimpArgs false
set_option linter.unusedVariables false
set_option maxRecDepth 100000 in
theorem grow_nil (w : World) (n : Nat) (hn : n ≤ 3145728) :
    Calls Try.prog 37 #[.slice none 0 0, .int .i64 (n : Int)] w fun e w' => ∃ v : Value, e = .returned v ∧ Kd.R k39 39 w' w.heap.size (fun _ => True) v [] ∧ Below w.heap.size w w' := by
  have HB0 := Aside0.mk (Below.refl w.heap.size w)
  by_cases h0 : n = 0
  · subst h0
    go_enter Try.func37, Try.ntmps37
    go_wp2_with fail
    go_ret
    exact ⟨_, rfl, Kd.R_nil _ _ _ _ _, HB0.out⟩
  · go_enter Try.func37, Try.ntmps37
    go_wp2_with ((with_reducible refine gate_builtin (b := .append) (xs := #[.tmp 20, .tmp 21]) rfl ?_); go_loud (at_builtin; refine Kd.R_append_zeros k39 (w0 := w) w.heap.size rfl (.tmp 20) (.tmp 21) 22 3 39 (.agg #[(.int .i64 0), (.int .i64 0), (.int .i64 0), (.string ⟨#[]⟩)]) 40 rfl Try.underlying22 Try.underlying3 info39 rfl (by decide) (by decide) (.slice none 0 0) [] (⟨0, 0, 0, ⟨#[]⟩⟩ : S39) (kx := .i64) (n : Int) (fun _ => True) rfl rfl ?hz (fun _ _ => trivial) (Kd.R_nil _ _ _ _ _) (by omega) HB0.out (Nat.le_refl _) (by simp; omega) ?_; (case hz => exact k39_mkM _ _ _ (⟨0, 0, 0, ⟨#[]⟩⟩ : S39)); intro v1 w1 h1 hb1 hg1 hat1; obtain ⟨ad, c, rfl⟩ := Kd.R_slice1 h1 (by simp; omega); have H1 := Aside0.mk h1; have HB1 := Aside0.mk hb1; clear h1 hb1 hg1 hat1))
    go_ret
    exact ⟨_, rfl, by have := Kd.R_take H1.out (Nat.zero_le _); simpa using this, HB1.out⟩
theorem flat_take (ls : List (List S39)) (k : Nat) (h : k < ls.length) : (ls.take (k + 1)).flatten = (ls.take k).flatten ++ ls[k] := by
  rw [List.take_succ_eq_append_getElem h, List.flatten_append]
  simp
theorem flat_le (ls : List (List S39)) (k : Nat) : (ls.take k).flatten.length ≤ ls.flatten.length := by
  conv => rhs; rw [← List.take_append_drop k ls, List.flatten_append, List.length_append]
  omega
set_option maxRecDepth 100000 in
theorem concat_any (w : World) (b c : Nat) (ls : List (List S39)) (hl : ls.flatten.length ≤ 3145728) (hll : ls.length ≤ 1048576)
    (hc : ∀ j (h : j < ls.length), ∃ A' c', w.cell? ⟨b, j, none⟩ = some (.slice A' ls[j].length c') ∧ Kd.C k39 w A' ls[j].length ls[j]) :
    Calls Try.prog 31 #[.slice (some ⟨b, 0, none⟩) ls.length c] w fun e w' => ∃ v : Value, e = .returned v ∧ Kd.R k39 39 w' w.heap.size (fun _ => True) v ls.flatten ∧ Below w.heap.size w w' := by
  have HC := Aside0.mk hc
  clear hc
  have HB0 := Aside0.mk (Below.refl w.heap.size w)
  have hG := fun W n hn => grow_nil W n hn
  have HG := Aside0.mk hG
  clear hG
  go_enter Try.func31, Try.ntmps31
  go_wp2_with fail
  go_loopw [3, 11] (fun s i wr => ∃ j : Nat, j ≤ ls.length ∧ i = .int .i64 (j : Int) ∧ s = .int .i64 (((ls.take j).flatten.length : Nat) : Int) ∧ wr = w) (fun s i _ => ls.length - (intOf i).toNat)
  case atStart => exact ⟨0, Nat.zero_le _, rfl, rfl, rfl⟩
  case round =>
    obtain ⟨j, hj, rfl, rfl, hw⟩ := hrel
    obtain rfl : w = wr := hw.symm
    by_cases hlt : j < ls.length
    · obtain ⟨A', c', x0, hr⟩ := HC.out j hlt
      have h1 := flat_take ls j hlt
      have h2 := flat_le ls (j + 1)
      rw [h1, List.length_append] at h2
      have H1 := Aside0.mk h1
      clear h1
      generalize hq : (ls.take j).flatten.length = q at h2
      have h3 : ((ls.take (j + 1)).flatten.length : Nat) = q + ls[j].length := by rw [H1.out, List.length_append, hq]
      have H3 := Aside0.mk h3
      clear h3 hq H1
      generalize ls[j].length = m at x0 h2 H3
      go_wp2_with fail
      go_roundw
      case rel => exact ⟨j + 1, by omega, by go_num, by rw [H3.out]; go_num, trivial⟩
      case measure => simp [intOf]; omega
    · obtain rfl : j = ls.length := by omega
      have h2 := flat_le ls ls.length
      generalize hq : (ls.take ls.length).flatten.length = q at h2
      clear hq
      go_wp2_with fail
      refine (HG.out _ q (by omega)).mono ?_
      rintro e w2 ⟨v, rfl, hv, hb⟩
      have HV := Aside0.mk hv
      have HB := Aside0.mk hb
      clear hv hb
      go_wp2_with fail
      go_loopw [6, 27] (fun u i w3 => ∃ j : Nat, j ≤ ls.length ∧ i = .int .i64 (j : Int) ∧ Aside0 (Kd.R k39 39 w3 w.heap.size (fun _ => True) u (ls.take j).flatten) ∧ Aside0 (Below w.heap.size w w3)) (fun u i _ => ls.length - (intOf i).toNat)
      case atStart => exact ⟨0, Nat.zero_le _, rfl, HV, HB⟩
      case round =>
        obtain ⟨j, hj, rfl, HU, HB3⟩ := hrel
        by_cases hlt : j < ls.length
        · obtain ⟨A', c', x0, hr⟩ := HC.out j hlt
          replace x0 := (HB3.out.cell (World.block_lt_of_cell? w _ x0)).trans x0
          have hr := Kd.C_below hr HB3.out
          have h1 := flat_take ls j hlt
          have h2 := flat_le ls (j + 1)
          rw [h1, List.length_append] at h2
          have H1 := Aside0.mk h1
          clear h1
          have HR := Aside0.mk hr
          clear hr
          generalize ls[j] = y at x0 h2 H1 HR
          generalize (ls.take j).flatten = xs at HU h2 H1
          obtain ⟨A3, c3, rfl⟩ := Kd.R_slice HU.out
          go_wp2_with ((with_reducible refine gate_builtin (b := .append) (xs := #[.tmp 31, .tmp 32]) rfl ?_); at_builtin; refine Kd.R_append_rows k39 (w0 := w) w.heap.size rfl (.tmp 31) (.tmp 32) 22 39 (.agg #[(.int .i64 0), (.int .i64 0), (.int .i64 0), (.string ⟨#[]⟩)]) 40 rfl Try.underlying22 info39 rfl (by decide) (by decide) _ _ y _ _ _ (fun _ => True) (fun _ => False) rfl rfl HU.out HR.out (fun x cs h => by rw [k39_open h]; exact k39_mkM _ _ _ x) (fun _ h => h.elim) (fun _ _ => trivial) HB3.out (by have := HB3.out.size; omega) (by omega) ?_; intro v1 w4 h4 hb4 hg4 hat4; obtain ⟨A4, c4, rfl⟩ := Kd.R_slice h4; have H4 := Aside0.mk h4; have HB4 := Aside0.mk hb4; clear h4 hb4 hg4 hat4)
          go_roundw
          case rel => exact ⟨j + 1, by omega, by go_num, ⟨by rw [H1.out]; have h4 := H4.out; rw [List.length_append] at h4; exact h4⟩, HB4⟩
          case measure => simp [intOf]; omega
        · obtain rfl : j = ls.length := by omega
          have hu := HU.out
          rw [List.take_length] at hu
          have HU' := Aside0.mk hu
          clear hu HU
          go_wp2_with fail
          go_ret
          exact ⟨_, rfl, HU'.out, HB3.out⟩
end Go.Proofs.Ytinibpncbhmchaa.Q
end
section
namespace Go.Proofs.Ytinibpncbhmchaa.Q
open Go Go.RowKit Go.Proofs.YtinibpncbhmchaaW.PrintWords Go.Proofs.YtinibpncbhmchaaW.PrintLast Go.Proofs.YtinibpncbhmchaaW.PrintMore
set_option linter.unusedSimpArgs false
set_option linter.unusedVariables false
theorem idxR_eq (t : Int) (l : List S39) : ∀ i, idxR t i l = (if (l.takeWhile (fun x => !(decide (x.f0 > t)))).length = l.length then -1 else ((i + (l.takeWhile (fun x => !(decide (x.f0 > t)))).length : Nat) : Int)) := by
  induction l with
  | nil => intro i; simp [idxR]
  | cons x l ih =>
    intro i
    by_cases h : t < x.f0
    · simp [idxR, h]
    · simp only [idxR, if_neg h, ih (i + 1), List.takeWhile_cons]
      simp [h]
      split <;> simp_all <;> omega
theorem c_one (w : World) (b : Nat) (f : S39) (h : w.heap[b]? = some (.cells #[.int .i64 f.f0, .int .i64 f.f1, .int .i64 f.f2, .string f.f3] 39 (0, 0))) : Kd.C k39 w (some ⟨b, 0, none⟩) 1 [f] := by
  refine ⟨rfl, by decide, fun _ => ⟨⟨b, 0, none⟩, rfl, fun j p hj => ?_⟩⟩
  obtain rfl : j = 0 := by have := (List.getElem?_eq_some_iff.1 hj).1; simpa using this
  obtain rfl : f = p := by simpa using hj
  refine ⟨_, rfl, k39_mk w f, fun i u hi => ?_⟩
  have hlt : i < 4 := (List.getElem?_eq_some_iff.1 hi).1
  have : i = 0 ∨ i = 1 ∨ i = 2 ∨ i = 3 := by omega
  rcases this with rfl | rfl | rfl | rfl <;> exact (blk_cell h _).trans hi
theorem concat3 (w : World) (b b1 c1 c2 n1 n2 : Nat) (A1 A2 : Option Addr) (xs ys : List S39) (f : S39) (hb : w.heap[b]? = some (.cells #[.slice A1 n1 c1, .slice (some ⟨b1, 0, none⟩) 1 1, .slice A2 n2 c2] 22 (0, 0)))
    (hb1 : w.heap[b1]? = some (.cells #[.int .i64 f.f0, .int .i64 f.f1, .int .i64 f.f2, .string f.f3] 39 (0, 0))) (e1 : n1 = xs.length) (e2 : n2 = ys.length) (h1 : Kd.C k39 w A1 xs.length xs) (h2 : Kd.C k39 w A2 ys.length ys) (hl : xs.length + ys.length ≤ 1048576) :
    Calls Try.prog 31 #[.slice (some ⟨b, 0, none⟩) 3 3] w fun e w' => ∃ v : Value, e = .returned v ∧ Kd.R k39 39 w' w.heap.size (fun _ => True) v (xs ++ [f] ++ ys) ∧ Below w.heap.size w w' := by
  subst e1
  subst e2
  have := concat_any w b 3 [xs, [f], ys] (by simp; omega) (by simp) (fun j h => by
    have : j = 0 ∨ j = 1 ∨ j = 2 := by simp at h; omega
    rcases this with rfl | rfl | rfl
    · exact ⟨A1, c1, (blk_cell hb 0).trans rfl, h1⟩
    · exact ⟨some ⟨b1, 0, none⟩, 1, (blk_cell hb 1).trans rfl, c_one w b1 f hb1⟩
    · exact ⟨A2, c2, (blk_cell hb 2).trans rfl, h2⟩)
  simpa using this
theorem tw_eq {l : List S39} {p : S39 → Bool} {n : Nat} (f : S39) (h : (l.takeWhile p).length = n) : l.takeWhile p ++ [f] ++ l.dropWhile p = l.take n ++ [f] ++ l.drop n := by
  have h1 : l.takeWhile p = l.take n := by
    rw [← h]
    exact (List.prefix_iff_eq_take.1 (List.takeWhile_prefix p))
  have h2 : l.takeWhile p ++ l.dropWhile p = l.take n ++ l.drop n := by rw [List.takeWhile_append_dropWhile, List.take_append_drop]
  rw [h1] at h2
  rw [h1, List.append_cancel_left h2]
theorem two_new (w : World) (o o' : Obj) : ((w.alloc o).alloc o').drew.heap[w.heap.size + 1]? = some o' := by
  have := World.alloc_heap_new (w.alloc o) o'
  rwa [World.size_alloc] at this
theorem one_new (w : World) (o o' : Obj) : ((w.alloc o).alloc o').drew.heap[w.heap.size]? = some o :=
  (Below.heap_alloc (w.alloc o) o' w.heap.size (by simp)).trans (World.alloc_heap_new w o)
set_option maxRecDepth 100000 in
theorem put_any (w : World) (A : Option Addr) (c : Nat) (l : List S39) (f : S39) (hr : Kd.C k39 w A l.length l) (hc : l.length ≤ c) (hl : l.length ≤ 1048576) :
    Calls Try.prog 16 #[.slice A l.length c, .agg #[.int .i64 f.f0, .int .i64 f.f1, .int .i64 f.f2, .string f.f3]] w fun e w' => ∃ v : Value, e = .returned v ∧ Kd.R k39 39 w' w.heap.size (fun _ => True) v (l.takeWhile (fun x => !(decide (x.f0 > f.f0))) ++ [f] ++ l.dropWhile (fun x => !(decide (x.f0 > f.f0)))) ∧ Below w.heap.size w w' := by
  have HR := Aside0.mk hr
  clear hr
  have hu39 := Try.underlying39
  have hI := fun W b hr h => index_any W b f A c l hr (by omega) h
  have HI := Aside0.mk hI
  clear hI
  have hx := idxR_eq f.f0 l 0
  rw [Nat.zero_add] at hx
  have hle : (l.takeWhile (fun x => !(decide (x.f0 > f.f0)))).length ≤ l.length := (List.takeWhile_prefix _).length_le
  generalize hn : (l.takeWhile (fun x => !(decide (x.f0 > f.f0)))).length = n at hx hle
  have HN := Aside0.mk hn
  clear hn
  go_enter Try.func16, Try.ntmps16
  go_wp2_with fail
  refine (HI.out _ w.heap.size (Kd.C_alloc HR.out _) (World.alloc_heap_new w _)).mono ?_
  rintro e w1 ⟨rfl, hb⟩
  have HB1 := Aside0.mk hb
  have hbx := (hb.block w.heap.size (by simp)).trans (World.alloc_heap_new w _)
  have HBX := Aside0.mk hbx
  have HB := Aside0.mk (((Below.refl w.heap.size w).alloc (Nat.le_refl _) _).trans (hb.mono (by simp)))
  clear hbx hb
  have hx1 := Kd.C_below (Kd.C_alloc HR.out (.cells #[.int .i64 f.f0, .int .i64 f.f1, .int .i64 f.f2, .string f.f3] 39)) HB1.out
  have hx2 : Kd.C k39 w1 A (l.take n).length (l.take n) ∧ Kd.C k39 w1 (if c = n then A else A.map (·.add (n * 4))) (l.drop n).length (l.drop n) := ⟨Kd.C_take hx1 hle, Kd.C_drop hx1 hle hc⟩
  have HX := Aside0.mk hx2
  clear hx1 hx2
  by_cases he : n = l.length
  · rw [if_pos he] at hx
    rw [hx]
    clear hx
    subst he
    by_cases hcl : c = l.length
    · subst hcl
      have hx3 := HX.out
      rw [if_pos rfl] at hx3
      clear HX
      have HX := Aside0.mk hx3
      clear hx3
      go_wp2_with fail
      have hq := concat3 (((w1.alloc (.cells #[.int .i64 f.f0, .int .i64 f.f1, .int .i64 f.f2, .string f.f3] 39)).alloc (.cells #[.slice A l.length l.length, .slice (some ⟨w1.heap.size, 0, none⟩) 1 1, .slice A 0 0] 22)).drew) (w1.heap.size + 1) w1.heap.size l.length 0 l.length 0 A A (l.take l.length) (l.drop l.length) f (two_new w1 _ _) (one_new w1 _ _) (by simp) (by simp) (Kd.C_drew (Kd.C_alloc (Kd.C_alloc (HX.out).1 _) _)) (Kd.C_drew (Kd.C_alloc (Kd.C_alloc (HX.out).2 _) _)) (by simp; omega)
      have hws : w.heap.size < w1.heap.size := by have := HB1.out.size; simp at this; omega
      have hbW := ((Below.heap_alloc (w1.alloc (.cells #[.int .i64 f.f0, .int .i64 f.f1, .int .i64 f.f2, .string f.f3] 39)) (.cells #[.slice A l.length l.length, .slice (some ⟨w1.heap.size, 0, none⟩) 1 1, .slice A 0 0] 22) w.heap.size (by simp; omega)).trans (Below.heap_alloc w1 _ w.heap.size hws)).trans HBX.out
      have HBW := Aside0.mk hbW
      clear hbW
      have HQ := Aside0.mk hq
      clear hq
      have b0 := (blk_cell HBX.out 0).trans (rfl : _ = some (Value.int .i64 f.f0))
      have b1 := (blk_cell HBX.out 1).trans (rfl : _ = some (Value.int .i64 f.f1))
      have b2 := (blk_cell HBX.out 2).trans (rfl : _ = some (Value.int .i64 f.f2))
      have b3 := (blk_cell HBX.out 3).trans (rfl : _ = some (Value.string f.f3))
      go_region_held3 (fun w' => w'.cell? ⟨w.heap.size, 0, none⟩ = some (.int .i64 f.f0) ∧ w'.cell? ⟨w.heap.size, 1, none⟩ = some (.int .i64 f.f1) ∧ w'.cell? ⟨w.heap.size, 2, none⟩ = some (.int .i64 f.f2) ∧ w'.cell? ⟨w.heap.size, 3, none⟩ = some (.string f.f3)) (first | (exact ⟨k0, k1, k2, k3⟩) | go_keep) ((go_at_call 31; refine (HQ.out).mono ?_; rintro e w4 ⟨v, rfl, hv, hb⟩; have hbw := (hb.block w.heap.size (by simp; omega)).trans HBW.out; have k0 := (blk_cell hbw 0).trans (rfl : _ = some (Value.int .i64 f.f0)); have k1 := (blk_cell hbw 1).trans (rfl : _ = some (Value.int .i64 f.f1)); have k2 := (blk_cell hbw 2).trans (rfl : _ = some (Value.int .i64 f.f2)); have k3 := (blk_cell hbw 3).trans (rfl : _ = some (Value.string f.f3)); clear hbw; have HV := Aside0.mk hv; have HB4 := Aside0.mk hb; clear hv hb))
      go_wp2_with fail
      go_ret
      refine ⟨_, rfl, ?_, ?_⟩
      · rw [tw_eq f HN.out]
        exact Kd.R_lower HV.out (by simp; omega)
      · exact Below.trans (by repeat (first | exact HB.out | apply below_alloc | apply below_drew1)) (HB4.out.mono (by simp; omega))
    · have hx3 := HX.out
      rw [if_neg hcl] at hx3
      clear HX
      have HX := Aside0.mk hx3
      clear hx3
      go_wp2_with fail
      have hq := concat3 (((w1.alloc (.cells #[.int .i64 f.f0, .int .i64 f.f1, .int .i64 f.f2, .string f.f3] 39)).alloc (.cells #[.slice A l.length c, .slice (some ⟨w1.heap.size, 0, none⟩) 1 1, .slice (A.map (·.add (l.length * 4))) 0 (c - l.length)] 22)).drew) (w1.heap.size + 1) w1.heap.size c (c - l.length) l.length 0 A (A.map (·.add (l.length * 4))) (l.take l.length) (l.drop l.length) f (two_new w1 _ _) (one_new w1 _ _) (by simp) (by simp) (Kd.C_drew (Kd.C_alloc (Kd.C_alloc (HX.out).1 _) _)) (Kd.C_drew (Kd.C_alloc (Kd.C_alloc (HX.out).2 _) _)) (by simp; omega)
      have hws : w.heap.size < w1.heap.size := by have := HB1.out.size; simp at this; omega
      have hbW := ((Below.heap_alloc (w1.alloc (.cells #[.int .i64 f.f0, .int .i64 f.f1, .int .i64 f.f2, .string f.f3] 39)) (.cells #[.slice A l.length c, .slice (some ⟨w1.heap.size, 0, none⟩) 1 1, .slice (A.map (·.add (l.length * 4))) 0 (c - l.length)] 22) w.heap.size (by simp; omega)).trans (Below.heap_alloc w1 _ w.heap.size hws)).trans HBX.out
      have HBW := Aside0.mk hbW
      clear hbW
      have HQ := Aside0.mk hq
      clear hq
      have b0 := (blk_cell HBX.out 0).trans (rfl : _ = some (Value.int .i64 f.f0))
      have b1 := (blk_cell HBX.out 1).trans (rfl : _ = some (Value.int .i64 f.f1))
      have b2 := (blk_cell HBX.out 2).trans (rfl : _ = some (Value.int .i64 f.f2))
      have b3 := (blk_cell HBX.out 3).trans (rfl : _ = some (Value.string f.f3))
      go_region_held3 (fun w' => w'.cell? ⟨w.heap.size, 0, none⟩ = some (.int .i64 f.f0) ∧ w'.cell? ⟨w.heap.size, 1, none⟩ = some (.int .i64 f.f1) ∧ w'.cell? ⟨w.heap.size, 2, none⟩ = some (.int .i64 f.f2) ∧ w'.cell? ⟨w.heap.size, 3, none⟩ = some (.string f.f3)) (first | (exact ⟨k0, k1, k2, k3⟩) | go_keep) ((go_at_call 31; refine (HQ.out).mono ?_; rintro e w4 ⟨v, rfl, hv, hb⟩; have hbw := (hb.block w.heap.size (by simp; omega)).trans HBW.out; have k0 := (blk_cell hbw 0).trans (rfl : _ = some (Value.int .i64 f.f0)); have k1 := (blk_cell hbw 1).trans (rfl : _ = some (Value.int .i64 f.f1)); have k2 := (blk_cell hbw 2).trans (rfl : _ = some (Value.int .i64 f.f2)); have k3 := (blk_cell hbw 3).trans (rfl : _ = some (Value.string f.f3)); clear hbw; have HV := Aside0.mk hv; have HB4 := Aside0.mk hb; clear hv hb))
      go_wp2_with fail
      go_ret
      refine ⟨_, rfl, ?_, ?_⟩
      · rw [tw_eq f HN.out]
        exact Kd.R_lower HV.out (by simp; omega)
      · exact Below.trans (by repeat (first | exact HB.out | apply below_alloc | apply below_drew1)) (HB4.out.mono (by simp; omega))
  · rw [if_neg he] at hx
    rw [hx]
    clear hx
    have hlt : n < l.length := by omega
    have g1 : (0 : Int) ≤ (n : Int) := Int.natCast_nonneg _
    have g2 : (n : Int) ≤ (l.length : Int) := by omega
    have g3 : (n : Int) ≤ (c : Int) := by omega
    have g4 : (l.length : Int) ≤ (c : Int) := by omega
    go_wp2_with fail
    have hq := concat3 (((w1.alloc (.cells #[.int .i64 f.f0, .int .i64 f.f1, .int .i64 f.f2, .string f.f3] 39)).alloc (.cells #[.slice A n c, .slice (some ⟨w1.heap.size, 0, none⟩) 1 1, .slice (if c = n then A else A.map (·.add (n * 4))) (l.length - n) (c - n)] 22)).drew) (w1.heap.size + 1) w1.heap.size c (c - n) n (l.length - n) A (if c = n then A else A.map (·.add (n * 4))) (l.take n) (l.drop n) f (two_new w1 _ _) (one_new w1 _ _) (by simp; omega) (by simp) (Kd.C_drew (Kd.C_alloc (Kd.C_alloc (HX.out).1 _) _)) (Kd.C_drew (Kd.C_alloc (Kd.C_alloc (HX.out).2 _) _)) (by simp; omega)
    have hws : w.heap.size < w1.heap.size := by have := HB1.out.size; simp at this; omega
    have hbW := ((Below.heap_alloc (w1.alloc (.cells #[.int .i64 f.f0, .int .i64 f.f1, .int .i64 f.f2, .string f.f3] 39)) (.cells #[.slice A n c, .slice (some ⟨w1.heap.size, 0, none⟩) 1 1, .slice (if c = n then A else A.map (·.add (n * 4))) (l.length - n) (c - n)] 22) w.heap.size (by simp; omega)).trans (Below.heap_alloc w1 _ w.heap.size hws)).trans HBX.out
    have HBW := Aside0.mk hbW
    clear hbW
    have HQ := Aside0.mk hq
    clear hq
    have b0 := (blk_cell HBX.out 0).trans (rfl : _ = some (Value.int .i64 f.f0))
    have b1 := (blk_cell HBX.out 1).trans (rfl : _ = some (Value.int .i64 f.f1))
    have b2 := (blk_cell HBX.out 2).trans (rfl : _ = some (Value.int .i64 f.f2))
    have b3 := (blk_cell HBX.out 3).trans (rfl : _ = some (Value.string f.f3))
    go_region_held3 (fun w' => w'.cell? ⟨w.heap.size, 0, none⟩ = some (.int .i64 f.f0) ∧ w'.cell? ⟨w.heap.size, 1, none⟩ = some (.int .i64 f.f1) ∧ w'.cell? ⟨w.heap.size, 2, none⟩ = some (.int .i64 f.f2) ∧ w'.cell? ⟨w.heap.size, 3, none⟩ = some (.string f.f3)) (first | (exact ⟨k0, k1, k2, k3⟩) | go_keep) ((go_at_call 31; refine (HQ.out).mono ?_; rintro e w4 ⟨v, rfl, hv, hb⟩; have hbw := (hb.block w.heap.size (by simp; omega)).trans HBW.out; have k0 := (blk_cell hbw 0).trans (rfl : _ = some (Value.int .i64 f.f0)); have k1 := (blk_cell hbw 1).trans (rfl : _ = some (Value.int .i64 f.f1)); have k2 := (blk_cell hbw 2).trans (rfl : _ = some (Value.int .i64 f.f2)); have k3 := (blk_cell hbw 3).trans (rfl : _ = some (Value.string f.f3)); clear hbw; have HV := Aside0.mk hv; have HB4 := Aside0.mk hb; clear hv hb))
    go_wp2_with fail
    go_ret
    refine ⟨_, rfl, ?_, ?_⟩
    · rw [tw_eq f HN.out]
      exact Kd.R_lower HV.out (by simp; omega)
    · exact Below.trans (by repeat (first | exact HB.out | apply below_alloc | apply below_drew1)) (HB4.out.mono (by simp; omega))
theorem field_Put.calls (A0 : Option Addr) (c0 : Nat) (l0 : List S39) (a1_0 a1_1 a1_2 : Int) (a1_3 : ByteArray) (r : List S39) (w : World) (hr0 : Kd.C k39 w A0 l0.length l0) (hc0 : l0.length ≤ c0) (h : field_Put.f l0 a1_0 a1_1 a1_2 a1_3 = some r) :
    Calls Try.prog 16 #[.slice A0 l0.length c0, .agg #[.int .i64 a1_0, .int .i64 a1_1, .int .i64 a1_2, .string a1_3]] w fun e w' => ∃ v0_ : Value, e = .returned (v0_) ∧ Kd.R k39 39 w' w.heap.size (fun _ => True) v0_ r ∧ Below w.heap.size w w' := by
  unfold field_Put.f at h
  split at h
  · rename_i hl
    have h := Option.some.inj h
    subst h
    exact put_any w A0 c0 l0 ⟨a1_0, a1_1, a1_2, a1_3⟩ hr0 hc0 hl
  · cases h
end Go.Proofs.Ytinibpncbhmchaa.Q
end
