/- Parts of the proof: HWo, HRList, HCheck, HHasM, Q39, Q40, Q41, PMayM, PSide, HWo2, HRCheck, HHasK, HReady, HFew, HFew2, HPaths, HDo0. -/
import Derived.Test.YtjllbkeobibnkaaDoorZD2
import Derived.Test.YtjllbkeobibnkaaDoorZD1
import Derived.Shelf.SlSortCmp.Whole1
import Derived.IntWalk
import Derived.Shelf.Slices.In.Clone
import Derived.StillTailTactics
import Derived.BigQuiet
import Derived.Deep.RegionHeld3
import Derived.Deep.DeepCutAuto
set_option linter.unusedVariables false
set_option linter.unusedSimpArgs false
namespace Go.Proofs.YtjllbkeobibnkaaDoor.Q
open Go Go.Proofs Go.Shelf Go.RowKit Go.Lib Go.Sort Go.Proofs.YtjllbkeobibnkaaDoorK Go.Proofs.YtjllbkeobibnkaaDoorW.PrintWords Go.Proofs.YtjllbkeobibnkaaDoorW.PrintLast Go.Proofs.YtjllbkeobibnkaaDoorW.PrintMore
set_option linter.unusedSimpArgs false
set_option linter.unusedVariables false
/-! ### slices.Clone, DeleteFunc; merge.without -/
set_option maxRecDepth 100000 in
set_option maxHeartbeats 1000000 in
/-- slices.Clone of a row that is read: a row of its own. -/
theorem clone_any (w : World) (A : Option Addr) (c : Nat) (l : List S58) (hC : k58.C w A l.length l) (hl : l.length ≤ 1048576) :
    Calls Tryd.prog 64 #[.slice A l.length c] w fun e w' => ∃ v, e = .returned v ∧ k58.R 58 w' w.heap.size (fun _ => True) v l ∧ Below w.heap.size w w' := by
  have q22 : ∀ (w : World) (a : Option Addr) (n c n' c' : Nat), (binOp .eql 22 (.slice a n c) (.slice none n' c')).run Tryd.prog w = .ok (.bool a.isNone) w := fun w a n c n' c' => Lib.run_eql_slice_nil w _ _ a n c n' c' Tryd.underlying22
  have hu22 : ∀ w, Sem.run Tryd.prog (underlying 22) w = .ok (TypeDesc.slice 58) w := run_underlying Tryd.underlying22
  cases A with
  | none =>
    have h0 : l = [] := by
      rcases Nat.eq_zero_or_pos l.length with h | h
      · exact List.eq_nil_of_length_eq_zero h
      · obtain ⟨a, he, _⟩ := hC.2.2 h
        cases he
    subst h0
    clear hC
    go_enter Tryd.func64, Tryd.ntmps64
    go_wp2_with fail
    go_ret
    exact ⟨_, rfl, Kd.R_nil _ _ _ _ _, bel _ _⟩
  | some ad =>
    have HR := Aside0.mk hC
    clear hC
    have HB := Aside0.mk (Below.refl w.heap.size w)
    go_enter Tryd.func64, Tryd.ntmps64
    go_wp2_with (first
      | ((with_reducible refine gate_dst (N := 5) rfl ?_); refine Kd.R_lit k58 _ 58 ?hg (N := 5) ?hd (xs := ([] : List S58)) (inner := []) (ok := fun _ => True) (okp := fun _ => True) ?hr ?hp (fun _ hk => hk) trivial (Below.refl _ _) (Nat.le_refl _) (by simp) ?_; (case hd => rfl); (case hg => rfl); (case hr => first | (go_simp; done) | (go_simp; rfl)); (case hp => exact (Reps.none _ _)); intro v5 w5 ho5 hb5 hg5 hnew5; clear hg5 hnew5; have HO5 := Aside0.mk ho5; have HB5 := Aside0.mk hb5; clear ho5 hb5)
      | ((with_reducible refine gate_builtin (b := .append) (xs := #[.tmp 5, .tmp 6]) rfl ?_); at_builtin; refine Kd.R_append_rows k58 (w0 := w) w.heap.size rfl (.tmp 5) (.tmp 6) 22 58 (.agg (A58 z58)) 64 rfl Tryd.underlying22 info58b (A58_size z58) (by decide) (by decide) v5 ([] : List S58) l _ _ _ (fun _ => True) (fun _ => False) rfl rfl ?aO ?aR (fun _ _ h => h) (fun _ h => h.elim) ?aF ?aB ?aS ?aL ?_; (case aR => exact Kd.C_below HR.out HB5.out); (case aB => exact HB5.out); (case aF => exact (fun _ _ => trivial)); (case aO => exact HO5.out); (case aS => exact HB5.out.size); (case aL => simp; omega); intro v6 w6 ho6 hb6 hg6 hat6; have HO6 := Aside0.mk ho6; have HB6 := Aside0.mk hb6; clear ho6 hb6 hg6 hat6))
    go_ret
    exact ⟨_, rfl, HO6.out, HB6.out⟩
/-! ### clear over a row of the call's own -/
theorem zcells (n : Nat) : (Builtin.zeroCells (A58 z58) n).size = n * 35 := by
  unfold Builtin.zeroCells
  rw [Array.size_map, Array.size_range, A58_size]
theorem zcells_one (n : Nat) : ∀ v ∈ (Builtin.zeroCells (A58 z58) n).toList, v.oneCell' = true := by
  intro v hv
  unfold Builtin.zeroCells at hv
  simp only [Array.toList_map, List.mem_map] at hv
  obtain ⟨i, _, rfl⟩ := hv
  have h : i % (A58 z58).size < (A58 z58).size := Nat.mod_lt _ (by rw [A58_size]; decide)
  rw [getElem!_pos (A58 z58) _ h]
  exact List.all_eq_true.1 (A58_all z58) _ (by rw [← Array.getElem_toList]; exact List.getElem_mem _)
theorem row_cut {W : World} {base g n c : Nat} {xs : List S58} (h : k58.R 58 W base (fun _ => True) (.slice (some ⟨g, 0, none⟩) n c) xs) (i : Nat) (hi : i ≤ n) (ty : TypeId) :
    ∃ W1, (Builtin.clear_ #[22] ty #[.slice (if c = i then some ⟨g, 0, none⟩ else some ((⟨g, 0, none⟩ : Addr).add (i * 35))) (n - i) (c - i)]).run Tryd.prog W = .ok (.tuple #[]) W1 ∧ k58.R 58 W1 base (fun _ => True) (.slice (some ⟨g, 0, none⟩) i c) (xs.take i) ∧ W.grownBy W1 (some g) := by
  obtain ⟨hn, hb, hnc, hcm, cur, hg, hcs, hc⟩ := row_open h
  by_cases h0 : n - i = 0
  · refine ⟨W, ?_, Kd.R_take h (by omega), World.grownBy.refl W _⟩
    rw [h0]
    split <;> simp [Builtin.clear_, run_underlying Tryd.underlying22]
  · rw [if_neg (by omega)]
    have hst := run_storeCells_at Tryd.prog g (i * 35) 58 (Builtin.zeroCells (A58 z58) (n - i)).toList 0 cur W hg (by rw [Array.length_toList, zcells, hcs]; have := Nat.mul_le_mul_right 35 hnc; omega) (zcells_one _)
    simp only [Nat.add_zero] at hst
    refine ⟨_, ?_, ?_, grown_setRow W g (cur.toList.take (i * 35) ++ (Builtin.zeroCells (A58 z58) (n - i)).toList ++ cur.toList.drop (i * 35 + (Builtin.zeroCells (A58 z58) (n - i)).toList.length)).toArray⟩
    · obtain ⟨m, hm⟩ : ∃ m, n - i = m + 1 := ⟨n - i - 1, by omega⟩
      rw [Go.Proofs.YtjllbkeobibnkaaDoorK.add_at, Nat.zero_add]
      rw [hm] at hst ⊢
      simp [Builtin.clear_, run_underlying Tryd.underlying22, zero58, hst, Value.cells]
    · refine row_mk hb (by rw [List.length_take]; omega) (by omega) hcm (setRow_heap W g cur _ 58 (0, 0) hg) ?_ (fun t ht => ?_)
      · rw [List.size_toArray, List.length_append, List.length_append, List.length_take, List.length_drop, Array.length_toList, Array.length_toList, zcells, hcs]
        have := Nat.mul_le_mul_right 35 hnc
        have := Nat.mul_le_mul_right 35 hi
        omega
      · have hti : t < (cur.toList.take (i * 35)).length := by
          rw [List.length_take, Array.length_toList, hcs]
          have := Nat.mul_le_mul_right 35 hnc
          have := Nat.mul_le_mul_right 35 hi
          omega
        have hix : t / 35 < (xs.take i).length := by rw [List.length_take]; omega
        rw [List.getElem?_toArray, List.append_assoc, List.getElem?_append_left hti, List.getElem?_take, if_pos ht, Array.getElem?_toList, hc t (by have := Nat.mul_le_mul_right 35 hi; omega), getElem!_pos (xs.take i) _ hix, getElem!_pos xs _ (by rw [List.length_take] at hix; omega), List.getElem_take]
section
variable {ops : Array Oper} {rest : List Oper} {o : Oper} {a : Act} {Q : Exit → Act → World → Prop}
theorem clear58 {W : World} (hgd : o.guard = none) (hN : o.dst = none) (x : Operand) (ho : o.op = .call { callee := .builtin .clear, args := #[x], argTypes := #[22] }) {base g n c : Nat} {xs : List S58} (h : k58.R 58 W base (fun _ => True) (.slice (some ⟨g, 0, none⟩) n c) xs) (i : Nat) (hi : i ≤ n)
    (hx : a.eval x = .slice (if c = i then some ⟨g, 0, none⟩ else some ((⟨g, 0, none⟩ : Addr).add (i * 35))) (n - i) (c - i))
    (hk : ∀ W1, k58.R 58 W1 base (fun _ => True) (.slice (some ⟨g, 0, none⟩) i c) (xs.take i) → W.grownBy W1 (some g) → wpList Tryd.prog ops Q rest a W1) : wpList Tryd.prog ops Q (o :: rest) a W := by
  obtain ⟨W1, hr, h1, h2⟩ := row_cut h i hi o.type
  refine wpList_plain hgd fun K hK => ?_
  unfold Oper.wp execOp
  simp only [ho, resolve, invoke, builtin, Sem.run_bind, Sem.run_pure, Result.andThen_ok, List.map_toArray, List.map_cons, List.map_nil, hx, hr]
  exact hK _ _ (by rw [hN]; exact hk W1 h1 h2)
theorem store58 {W : World} (hgd : o.guard = none) (hN : o.dst = none) (x y : Operand) (ho : o.op = .store 58 x y) {base g n c : Nat} {xs : List S58} (h : k58.R 58 W base (fun _ => True) (.slice (some ⟨g, 0, none⟩) n c) xs) (i : Nat) (hi : i < n) (z : S58) {ad : Addr} (had : ad = ⟨g, 0, none⟩)
    (hx : a.eval x = .pointer (some (ad.add (i * 35)))) (hy : a.eval y = .agg (A58 z)) (hk : ∀ W1, k58.R 58 W1 base (fun _ => True) (.slice (some ⟨g, 0, none⟩) n c) (xs.set i z) → W.grownBy W1 (some g) → wpList Tryd.prog ops Q rest a W1) : wpList Tryd.prog ops Q (o :: rest) a W := by
  refine wpList_plain hgd fun K hK => ?_
  exact store_cand x y ho h i hi z had hx hy (fun W1 h1 h2 => hK _ _ (by rw [hN]; exact hk W1 h1 h2))
end
theorem row_form {W : World} {base n c : Nat} {A : Option Addr} {xs : List S58} (h : k58.R 58 W base (fun _ => True) (.slice A n c) xs) (hn : 0 < xs.length) : ∃ g, A = some ⟨g, 0, none⟩ := by
  obtain ⟨_, inner, ⟨hlen, hor⟩, hrep⟩ := h
  rcases hor with ⟨he, h0⟩ | ⟨g', cap', cur, he, hb, hg, hnc, hcm, hcs, htk⟩
  · omega
  · injection he with h1
    exact ⟨g', h1⟩
/-! ### DeleteFunc, without -/
def woS (l : List S58) (p : ByteArray) : List S58 := l.filter fun k => !eqP p k
theorem idxK_spec (q : S58 → Bool) (l : List S58) : ∀ i : Nat, (idxK q i l = -1 ∧ ∀ x ∈ l, q x = false) ∨ ∃ j, ∃ h : j < l.length, idxK q i l = ((i + j : Nat) : Int) ∧ (∀ x ∈ l.take j, q x = false) ∧ q l[j] = true := by
  induction l with
  | nil => intro i; exact .inl ⟨rfl, by simp⟩
  | cons k l ih =>
    intro i
    unfold idxK
    cases h : q k with
    | true => rw [if_pos rfl]; exact .inr ⟨0, Nat.zero_lt_succ _, rfl, by simp, h⟩
    | false =>
      rw [if_neg (by decide)]
      rcases ih (i + 1) with ⟨h1, h2⟩ | ⟨j, hj, h1, h2, h3⟩
      · refine .inl ⟨h1, fun x hx => ?_⟩
        rcases List.mem_cons.1 hx with e | hx
        · rw [e]; exact h
        · exact h2 x hx
      · refine .inr ⟨j + 1, Nat.succ_lt_succ hj, by rw [h1]; congr 1; omega, fun x hx => ?_, h3⟩
        rw [List.take_succ_cons] at hx
        rcases List.mem_cons.1 hx with e | hx
        · rw [e]; exact h
        · exact h2 x hx
attribute [local go_sem] A51_size A51_0 A51_1 A51_g0 A51_g1 A58_size A58_0 A58_1 A58_2 A58_g0 A58_g1 A58_g2 cell_held frozen_held
attribute [local go_sem] zero51 zero58 zero65
attribute [local go_sem ↓ high] lvx_of
attribute [local go_sem] lv_sc lv24 lv33
attribute [local go_sem ↓ high] lv51 lv51s lv58 lv58a lv65 lv65a lv65l lv65r sc51 sc58 sc65 sc65a sc65l sc65r sc58a
set_option maxRecDepth 100000 in
theorem wo1_any (w : World) (b : Nat) (p : ByteArray) (x : S58) (h : w.heap[b]? = some (.cells #[.string p] 9 (0, 0))) : Calls Tryd.prog 65 #[.agg (A58 x), .pointer (some ⟨b, 0, none⟩)] w fun e w' => e = .returned (.bool (eqP p x)) ∧ Below w.heap.size w w' := by
  have hh : Go.Proofs.YtjllbkeobibnkaaDoorK.Holds w b (.cells #[.string p] 9) := ⟨h⟩
  have hlt := blk_lt h
  clear h
  show Calls _ _ _ _ fun e w' => e = .returned (.bool (x.f0.toList == p.toList)) ∧ _
  go_enter Tryd.func65, Tryd.ntmps65
  go_wp2_with fail
  go_ret
  exact ⟨rfl, bel _ _⟩
end Go.Proofs.YtjllbkeobibnkaaDoor.Q

namespace Go.Proofs.YtjllbkeobibnkaaDoor.Q
open Go Go.Proofs Go.Shelf Go.RowKit Go.Lib Go.Sort Go.Proofs.YtjllbkeobibnkaaDoorP Go.Proofs.YtjllbkeobibnkaaDoorK Go.Proofs.YtjllbkeobibnkaaDoorW.PrintWords Go.Proofs.YtjllbkeobibnkaaDoorW.PrintLast Go.Proofs.YtjllbkeobibnkaaDoorW.PrintMore
set_option linter.unusedSimpArgs false
set_option linter.unusedVariables false
/-! ### The document's Kind, Compare; its list -/
theorem rKind_any (w : World) (p : ByteArray) (hp : p.size ≤ 65536) : Calls Tryd.prog 66 #[.string p] w fun e w' => e = .returned (.tuple #[.int .i64 (kindS p).1, .int .i64 (kindS p).2]) ∧ Below w.heap.size w w' :=
  aquiferref05_Kind.calls (p.size + 300) p _ _ w (refkind p hp _ (by omega))
theorem rCmp_any (w : World) (a b : ByteArray) (ha : a.size ≤ 65536) (hb : b.size ≤ 65536) : Calls Tryd.prog 67 #[.string a, .string b] w fun e w' => e = .returned (.int .i64 (pcmp a b)) ∧ Below w.heap.size w w' :=
  aquiferref05_Compare.calls (2 * a.size + b.size + 300) a b _ w (refcompare a b ha hb _ (by omega) (by omega))
attribute [local go_sem] A51_size A51_0 A51_1 A51_g0 A51_g1 A58_size A58_0 A58_1 A58_2 A58_g0 A58_g1 A58_g2 cell_held frozen_held
attribute [local go_sem] zero51 zero58 zero65
attribute [local go_sem ↓ high] lvx_of
attribute [local go_sem] lv_sc lv24 lv33
attribute [local go_sem ↓ high] lv51 lv51s lv58 lv58a lv65 lv65a lv65l lv65r sc58 sc65 sc65a sc65l sc65r sc58a
set_option maxRecDepth 100000 in
set_option maxHeartbeats 4000000 in
theorem rlist_any (w : World) (A : Option Addr) (c : Nat) (l : List S58) (least : Int) (hC : k58.C w A l.length l) (hs : shortK l = true) :
    Calls Tryd.prog 55 #[.slice A l.length c, .int .i64 least] w fun e w' => e = .returned (.bool (listA least none l)) ∧ Below w.heap.size w w' := by
  obtain ⟨hl, hsz⟩ := shortK_open hs
  have HR := Aside0.mk hC
  have HZ := Aside0.mk hsz
  have HB0 := Aside0.mk (Below.refl w.heap.size w)
  obtain ⟨R, hR⟩ : ∃ R, listA least none l = R := ⟨_, rfl⟩
  rw [hR]
  clear hC hs hsz
  go_enter Tryd.func55, Tryd.ntmps55
  go_wp2_with fail
  go_loopw [5] (fun i wr => ∃ j : Nat, j ≤ l.length ∧ i = .int .i64 (j : Int) ∧ Aside0 (listA least (prevK l j) (l.drop j) = R) ∧ Aside0 (Below w.heap.size w wr)) (fun i _ => l.length - (intOf i).toNat)
  case atStart => exact ⟨0, Nat.zero_le _, rfl, ⟨hR⟩, HB0⟩
  case round =>
    obtain ⟨j, hj, rfl, HI, HB⟩ := hrel
    have bw : Bel w.heap.size w wr := ⟨fun _ => HB.out⟩
    have ow : OwnB w.heap.size (.row wr.heap.size) := own_row HB.out.size
    by_cases hlt : j < l.length
    · obtain ⟨ad, e, x0⟩ := C58_at HR.out j hlt
      subst e
      have hd := List.drop_eq_getElem_cons hlt
      have hmem := List.getElem_mem hlt
      have hx := HZ.out _ hmem
      have hnext : prevK l (j + 1) = some l[j].f0 := by show l[j]?.map (·.f0) = _; rw [List.getElem?_eq_getElem hlt]; rfl
      have hI := HI.out
      rw [hd] at hI
      simp only [listA] at hI
      rw [← hnext] at hI
      have HN := Aside0.mk hnext
      have hk := fun W => rKind_any W l[j].f0 hx
      generalize l[j] = x at x0 hI hk hx HN
      replace x0 := At_below x0 HB.out
      have X0 := Aside0.mk x0
      clear hd hmem HI x0 hnext
      cases hok : okK least x with
      | false =>
        rw [hok, Bool.false_and] at hI
        have HI := Aside0.mk hI
        have HK := Aside0.mk hk
        have HX := Aside0.mk hok
        clear hI hk hok hR hx
        have x1 := (At58 X0.out).1
        rw [add_zero_] at x1
        go_wp2_with fail
        refine (HK.out _).mono ?_
        rintro e w1 ⟨rfl, hb1⟩
        have p1 := prev_call hb1
        clear hb1
        have ow1 : OwnB w.heap.size (.row w1.heap.size) := own_row (by have := HB.out.size; have := p1.out.size; omega)
        have ow2 : OwnB wr.heap.size (.row w1.heap.size) := own_row p1.out.size
        have X1 := Aside0.mk (At58 (At_below X0.out (bel wr w1))).2.2.2.1
        go_wp2_with (first
          | (refine seg_load rfl 51 (.tmp 27) rfl X1.out (A51 x.f1) rfl rfl Tryd.underlying51 rfl (by rw [L51_len]; exact info51s) ?_)
          | (refine box_store rfl rfl 51 (.tmp 8) (.tmp 28) rfl held (A51 x.f1) rfl rfl (by rw [A51_size]; exact info51s) (by rw [A51_size, A51_size]) (A51_all _) ?_
             intro wz hxz hgz
             have pz := prev_row hgz
             have hz : Go.Proofs.YtjllbkeobibnkaaDoorK.Holds wz w1.heap.size (.cells (A51 x.f1) 51) := ⟨hxz⟩
             clear hxz hgz))
        all_goals first
          | (exfalso
             have hx := HX.out
             unfold okK at hx
             rw [decide_eq_true (show kindS x.f0 = (2, 0) from Prod.ext (by assumption) (by assumption)), decide_eq_true (show 0 ≤ x.f1.f1 by omega), decide_eq_true (show x.f1.f1 ≤ 4096 by omega), decide_eq_true (show least ≤ x.f1.f0 by omega), decide_eq_true (show x.f1.f0 ≤ 1099511627776 by omega)] at hx
             exact absurd hx (by decide))
          | (go_ret
             exact ⟨by rw [← HI.out]; rfl, bel _ _⟩)
      | true =>
        rw [hok, Bool.true_and] at hI
        unfold okK at hok
        simp only [Bool.and_eq_true, decide_eq_true_eq] at hok
        obtain ⟨hk0, k1, k2, k3, k4⟩ := hok
        rw [hk0] at hk
        dsimp only at hk
        have HK := Aside0.mk hk
        clear hk hR hk0
        by_cases h0 : j = 0
        · subst h0
          simp only [prevK, Bool.true_and] at hI
          have HI := Aside0.mk hI
          clear hI hx
          have x1 := (At58 X0.out).1
          rw [add_zero_] at x1
          try rw [Nat.zero_mul, add_zero_] at x1
          go_wp2_with fail
          refine (HK.out _).mono ?_
          rintro e w1 ⟨rfl, hb1⟩
          have p1 := prev_call hb1
          clear hb1
          have ow1 : OwnB w.heap.size (.row w1.heap.size) := own_row (by have := HB.out.size; have := p1.out.size; omega)
          have ow2 : OwnB wr.heap.size (.row w1.heap.size) := own_row p1.out.size
          have X1 := Aside0.mk (At58 (At_below X0.out (bel wr w1))).2.2.2.1
          go_wp2_with (first
            | (refine seg_load rfl 51 (.tmp 27) rfl X1.out (A51 x.f1) rfl rfl Tryd.underlying51 rfl (by rw [L51_len]; exact info51s) ?_)
            | (refine box_store rfl rfl 51 (.tmp 8) (.tmp 28) rfl held (A51 x.f1) rfl rfl (by rw [A51_size]; exact info51s) (by rw [A51_size, A51_size]) (A51_all _) ?_
               intro wz hxz hgz
               have pz := prev_row hgz
               have hz : Go.Proofs.YtjllbkeobibnkaaDoorK.Holds wz w1.heap.size (.cells (A51 x.f1) 51) := ⟨hxz⟩
               clear hxz hgz))
          go_quiet (fail)
          go_wp2_with fail
          go_roundw
          case rel => exact ⟨1, by omega, by go_num, HI, ⟨bel _ _⟩⟩
          case measure => simp [intOf]; omega
        · obtain ⟨i, hi⟩ : ∃ i, j = i + 1 := ⟨j - 1, by omega⟩
          have hil : i < l.length := by omega
          obtain ⟨ad2, e2, y0⟩ := C58_at HR.out i hil
          obtain rfl : ad = ad2 := Option.some.inj e2
          have hy := HZ.out _ (List.getElem_mem hil)
          have hp : prevK l j = some l[i].f0 := by rw [hi]; show l[i]?.map (·.f0) = _; rw [List.getElem?_eq_getElem hil]; rfl
          rw [hp] at hI
          generalize l[i] = y at y0 hI hy
          dsimp only at hI
          have hc := fun W => rCmp_any W y.f0 x.f0 hy hx
          have HCP := Aside0.mk hc
          have hw1 : IntKind.i64.wrap ((j : Int) - 1) = (i : Int) := by rw [i64_w]; unfold wrap64; omega
          have Y0 := Aside0.mk (At_below y0 HB.out)
          have hj0 : 0 < (j : Int) := by omega
          have hj1 : decide ((0 : Int) < (j : Int)) = true := decide_eq_true hj0
          have hj2 : 0 < j := by omega
          have hj3 : (0 : Int) ≤ (i : Int) := by omega
          have hj4 : (i : Int) < (l.length : Int) := by omega
          have hj5 : i < l.length := hil
          have HJ := Aside0.mk hi
          clear hc hp y0 e2 hx hy hi h0
          have HII := Aside0.mk hI
          clear hI
          have x1 := (At58 X0.out).1
          rw [add_zero_] at x1
          try rw [Nat.zero_mul, add_zero_] at x1
          go_wp2_with fail
          refine (HK.out _).mono ?_
          rintro e w1 ⟨rfl, hb1⟩
          have p1 := prev_call hb1
          clear hb1
          have ow1 : OwnB w.heap.size (.row w1.heap.size) := own_row (by have := HB.out.size; have := p1.out.size; omega)
          have ow2 : OwnB wr.heap.size (.row w1.heap.size) := own_row p1.out.size
          have X1 := Aside0.mk (At58 (At_below X0.out (bel wr w1))).2.2.2.1
          go_wp2_with (first
            | (refine seg_load rfl 51 (.tmp 27) rfl X1.out (A51 x.f1) rfl rfl Tryd.underlying51 rfl (by rw [L51_len]; exact info51s) ?_)
            | (refine box_store rfl rfl 51 (.tmp 8) (.tmp 28) rfl held (A51 x.f1) rfl rfl (by rw [A51_size]; exact info51s) (by rw [A51_size, A51_size]) (A51_all _) ?_
               intro wz hxz hgz
               have pz := prev_row hgz
               have hz : Go.Proofs.YtjllbkeobibnkaaDoorK.Holds wz w1.heap.size (.cells (A51 x.f1) 51) := ⟨hxz⟩
               have y1 := (At58 (At_below Y0.out (bel wr wz))).1
               rw [add_zero_] at y1
               have x2 := (At58 (At_below X0.out (bel wr wz))).1
               rw [add_zero_] at x2
               clear hxz hgz))
          rename World => wz
          go_still_tail 14, (by kernel_rfl)
          change wpList _ _ _ _ _ wz.drew
          have p2 : Prev wz.drew wz .none := inferInstance
          generalize wz.drew = w2 at p2 ⊢
          by_cases hc : pcmp y.f0 x.f0 < 0
          · have hI := HII.out
            rw [decide_eq_true hc, Bool.true_and] at hI
            have HI := Aside0.mk hI
            have hge : ¬ (0 ≤ pcmp y.f0 x.f0) := by omega
            clear hc hI
            go_wp2_with fail
            refine (HCP.out _).mono ?_
            rintro e w3 ⟨rfl, hb⟩
            have p3 := prev_call hb
            clear hb
            go_wp2_with fail
            go_roundw
            case rel => exact ⟨j + 1, by omega, by go_num, HI, ⟨bel _ _⟩⟩
            case measure => simp [intOf]; omega
          · have hI := HII.out
            rw [decide_eq_false hc, Bool.false_and] at hI
            have HI := Aside0.mk hI
            have hge : (0 ≤ pcmp y.f0 x.f0) := by omega
            clear hc hI
            go_wp2_with fail
            refine (HCP.out _).mono ?_
            rintro e w3 ⟨rfl, hb⟩
            have p3 := prev_call hb
            clear hb
            go_wp2_with fail
            go_ret
            exact ⟨by rw [← HI.out]; rfl, bel _ _⟩
    · have hI := HI.out
      rw [List.drop_of_length_le (by omega)] at hI
      have HI' := Aside0.mk hI
      clear hI HI
      go_wp2_with fail
      go_ret
      exact ⟨by rw [← HI'.out]; rfl, HB.out⟩
end Go.Proofs.YtjllbkeobibnkaaDoor.Q

namespace Go.Proofs.YtjllbkeobibnkaaDoor.Q
open Go Go.Proofs Go.Shelf Go.RowKit Go.Lib Go.Sort Go.Proofs.YtjllbkeobibnkaaDoorP Go.Proofs.YtjllbkeobibnkaaDoorK Go.Proofs.YtjllbkeobibnkaaDoorW.PrintWords Go.Proofs.YtjllbkeobibnkaaDoorW.PrintLast Go.Proofs.YtjllbkeobibnkaaDoorW.PrintMore
set_option linter.unusedSimpArgs false
set_option linter.unusedVariables false
/-! ### merge.Check -/
/-- Both sides have a version, but unlike. -/
def badK (R : List S58) (k : S58) : Bool := (findS R k.f0).2 && (((findS R k.f0).1.f0 == k.f1.f0) && !alikeS (findS R k.f0).1 k.f1)
def listsS (s : S24) : Bool := listA 1 none s.f0 && (listA 0 none s.f1 && listA 1 none s.f2)
def checkS (s : S24) : Int := if listsS s = true then (if s.f0.any (badK s.f2) = true then 2 else 0) else 2
/-- Sides that are not too long. -/
def okS (s : S24) : Bool := shortK s.f0 && (shortK s.f1 && shortK s.f2)
theorem okS_open {s : S24} (h : okS s = true) : shortK s.f0 = true ∧ shortK s.f1 = true ∧ shortK s.f2 = true := by
  unfold okS at h
  simpa using h
theorem okS_short {s : S24} (h : okS s = true) : shortS s = true := by
  obtain ⟨h1, h2, h3⟩ := okS_open h
  unfold shortS
  rw [decide_eq_true (shortK_open h1).1, decide_eq_true (shortK_open h2).1, decide_eq_true (shortK_open h3).1]
  rfl
attribute [local go_sem] A51_size A51_0 A51_1 A51_g0 A51_g1 A58_size A58_0 A58_1 A58_2 A58_g0 A58_g1 A58_g2 cell_held frozen_held
attribute [local go_sem] zero51 zero58 zero65
attribute [local go_sem ↓ high] lvx_of
attribute [local go_sem] lv_sc lv24 lv33
attribute [local go_sem ↓ high] lv51 lv51s lv58 lv58a lv65 lv65a lv65l lv65r sc51 sc58 sc65 sc65a sc65l sc65r sc58a
set_option maxRecDepth 100000 in
set_option maxHeartbeats 4000000 in
theorem Check_any (w : World) (s : S24) (v : Array Value) (hs : SideIn w s v) (ho : okS s = true) :
    Calls Tryd.prog 25 #[.agg v] w fun e w' => e = .returned (.int .i64 (checkS s)) ∧ Below w.heap.size w w' := by
  obtain ⟨A, c, B, d, C, e, rfl, l1, l2, l3, h1, h2, h3⟩ := hs.out
  obtain ⟨m1, m2, m3⟩ := okS_open ho
  have n1 := (shortK_open m1).1
  have n3 := (shortK_open m3).1
  have HL0 := Aside0.mk (fun W (hb : Below w.heap.size w W) => list_any W A c s.f0 1 (Kd.C_below h1 hb) m1)
  have HL1 := Aside0.mk (fun W (hb : Below w.heap.size w W) => list_any W B d s.f1 0 (Kd.C_below h2 hb) m2)
  have HL2 := Aside0.mk (fun W (hb : Below w.heap.size w W) => list_any W C e s.f2 1 (Kd.C_below h3 hb) m3)
  have HF := Aside0.mk (fun W p (hb : Below w.heap.size w W) => Find_any W C e s.f2 p (Kd.C_below h3 hb) n3)
  have HC := Aside0.mk h1
  obtain ⟨V, hV⟩ : ∃ V, checkS s = V := ⟨_, rfl⟩
  rw [hV]
  unfold checkS listsS at hV
  clear hs ho l1 l2 l3 h1 h2 h3 m1 m2 m3 n3
  generalize s.f0 = la at *
  generalize s.f1 = lb at *
  generalize s.f2 = lc at *
  generalize listA 1 none la = b0 at *
  generalize listA 0 none lb = b1 at *
  generalize listA 1 none lc = b2 at *
  have HV := Aside0.mk hV
  clear hV
  go_enter Tryd.func25, Tryd.ntmps25
  go_wp2_with fail
  refine (HL0.out _ (bel _ _)).mono ?_
  rintro r1 w1 ⟨rfl, hb⟩
  have p1 := prev_call hb
  clear hb
  cases b0
  · go_wp2_with fail
    go_ret
    exact ⟨by rw [← HV.out]; rfl, bel _ _⟩
  go_wp2_with fail
  refine (HL1.out _ (bel _ _)).mono ?_
  rintro r2 w2 ⟨rfl, hb⟩
  have p2 := prev_call hb
  clear hb
  cases b1
  · go_wp2_with fail
    go_ret
    exact ⟨by rw [← HV.out]; rfl, bel _ _⟩
  go_wp2_with fail
  refine (HL2.out _ (bel _ _)).mono ?_
  rintro r3 w3 ⟨rfl, hb⟩
  have p3 := prev_call hb
  clear hb
  cases b2
  · go_wp2_with fail
    go_ret
    exact ⟨by rw [← HV.out]; rfl, bel _ _⟩
  have hV := HV.out
  simp only [Bool.and_self, if_true] at hV
  have HV := Aside0.mk hV
  clear hV
  go_wp2_with fail
  go_loopw [26] (fun i wr => ∃ j : Nat, j ≤ la.length ∧ i = .int .i64 (j : Int) ∧ Aside0 ((if (la.drop j).any (badK lc) = true then (2 : Int) else 0) = V) ∧ Aside0 (Below w3.heap.size w3 wr)) (fun i _ => la.length - (intOf i).toNat)
  case atStart => exact ⟨0, Nat.zero_le _, rfl, HV, ⟨Below.refl _ _⟩⟩
  case round =>
    obtain ⟨j, hj, rfl, HI, HB⟩ := hrel
    have pr := prev_call HB.out
    have bw : Bel w.heap.size w wr := inferInstance
    by_cases hlt : j < la.length
    · obtain ⟨ad, e0, x0⟩ := C58_at HC.out j hlt
      subst e0
      have hI := HI.out
      rw [List.drop_eq_getElem_cons hlt, List.any_cons] at hI
      generalize la[j] = x at x0 hI
      replace x0 := At_below x0 (bel w wr)
      have X0 := Aside0.mk x0
      have HFX := Aside0.mk (fun W hb => HF.out W x.f0 hb)
      unfold badK at hI
      generalize findS lc x.f0 = f at HFX hI
      obtain ⟨r, b⟩ := f
      dsimp only at HFX hI
      have ow : OwnB w.heap.size (.row wr.heap.size) := own_row (siz w wr)
      have aw : Apart w.heap.size (.row wr.heap.size) := apart_ne (by have := (inferInstance : Size (w.heap.size + 1) wr).out; omega)
      have ow3 : OwnB w3.heap.size (.row wr.heap.size) := own_row HB.out.size
      have HII := Aside0.mk hI
      clear x0 hI HI
      go_wp2_with (refine seg_load rfl 58 (.tmp 28) rfl X0.out (A58 x) rfl rfl Tryd.underlying58 rfl (by rw [L58_len]; exact info58s) ?_)
      refine (HFX.out _ (bel _ _)).mono ?_
      rintro r4 w4 ⟨rfl, hb⟩
      have p4 := prev_call hb
      clear hb
      have ow4 : OwnB w.heap.size (.row w4.heap.size) := own_row (siz w w4)
      have ow5 : OwnB w3.heap.size (.row w4.heap.size) := own_row (siz w3 w4)
      have aw4 : Apart wr.heap.size (.row w4.heap.size) := apart_ne (by have := (inferInstance : Size (wr.heap.size + 1) w4).out; omega)
      cases b with
      | false =>
        have hI := HII.out
        simp only [Bool.false_and, Bool.false_or] at hI
        have HI := Aside0.mk hI
        clear hI
        go_wp2_with fail
        go_roundw
        case rel => exact ⟨j + 1, by omega, by go_num, HI, ⟨bel _ _⟩⟩
        case measure => simp [intOf]; omega
      | true =>
        cases hv : (r.f0 == x.f1.f0) with
        | false =>
          have hI := HII.out
          simp only [hv, Bool.true_and, Bool.false_and, Bool.false_or] at hI
          have HI := Aside0.mk hI
          clear hI
          go_wp2_with fail
          go_roundw
          case rel => exact ⟨j + 1, by omega, by go_num, HI, ⟨bel _ _⟩⟩
          case measure => simp [intOf]; omega
        | true =>
          have hI := HII.out
          simp only [hv, Bool.true_and] at hI
          have HAL := Aside0.mk (fun W => alike_any W r x.f1)
          generalize alikeS r x.f1 = q at HAL hI
          have HI := Aside0.mk hI
          clear hI
          go_wp2_with fail
          refine (HAL.out _).mono ?_
          rintro r5 w5 ⟨rfl, hb⟩
          have p5 := prev_call hb
          clear hb
          cases q with
          | false =>
            go_wp2_with fail
            go_ret
            exact ⟨by rw [← HI.out]; rfl, bel _ _⟩
          | true =>
            have hI := HI.out
            simp only [Bool.not_true, Bool.false_or] at hI
            have HI := Aside0.mk hI
            clear hI
            go_wp2_with fail
            go_roundw
            case rel => exact ⟨j + 1, by omega, by go_num, HI, ⟨bel _ _⟩⟩
            case measure => simp [intOf]; omega
    · have hI := HI.out
      rw [List.drop_of_length_le (by omega)] at hI
      have HI' := Aside0.mk hI
      clear hI HI
      go_wp2_with fail
      go_ret
      exact ⟨by rw [← HI'.out]; rfl, bel _ _⟩
end Go.Proofs.YtjllbkeobibnkaaDoor.Q

namespace Go.Proofs.YtjllbkeobibnkaaDoor.Q
open Go Go.Proofs Go.Shelf Go.RowKit Go.Lib Go.Sort Go.Proofs.YtjllbkeobibnkaaDoorP Go.Proofs.YtjllbkeobibnkaaDoorK Go.Proofs.YtjllbkeobibnkaaDoorW.PrintWords Go.Proofs.YtjllbkeobibnkaaDoorW.PrintLast Go.Proofs.YtjllbkeobibnkaaDoorW.PrintMore
set_option linter.unusedSimpArgs false
set_option linter.unusedVariables false
/-! ### scope.Has (as in the scope's seat) -/
theorem within_c (W : World) (d p : ByteArray) (hp : p.size ≤ 65536) : Calls Tryd.prog 50 #[.string d, .string p] W fun e w' => e = .returned (.bool (withinS d p)) ∧ Below W.heap.size W w' := by
  have hb := fun W => Below_any W d p hp
  unfold withinS
  have HB := Aside0.mk hb
  clear hb
  cases h : (p.toList == d.toList) with
  | true =>
    go_enter Tryd.func50, Tryd.ntmps50
    go_wp2_with fail
    go_ret
    exact ⟨rfl, bel _ _⟩
  | false =>
    go_enter Tryd.func50, Tryd.ntmps50
    go_wp2_with fail
    refine (HB.out _).mono ?_
    rintro e w1 ⟨rfl, hb⟩
    go_wp2_with fail
    go_ret
    exact ⟨rfl, hb⟩
theorem C_str {w : World} {A : Option Addr} {l : List ByteArray} (h : Kd.C Kd.string w A l.length l) (j : Nat) (hj : j < l.length) : ∃ ad, A = some ad ∧ w.cell? (ad.add j) = some (.string l[j]) := by
  obtain ⟨ad, e, hc⟩ := h.2.2 (by omega)
  obtain ⟨c, h1, h2, h3⟩ := hc j l[j] (List.getElem?_eq_getElem hj)
  refine ⟨ad, e, ?_⟩
  have h4 : w.cell? (ad.add (j * 1 + 0)) = some (.string l[j]) := h3 0 (.string l[j]) (by rw [show c = [Value.string l[j]] from h2]; rfl)
  simpa using h4
/-- Where the first one stands that is so; -1: none is. -/
def idxP (p : ByteArray → Bool) : Nat → List ByteArray → Int
  | _, [] => -1
  | i, x :: l => if p x = true then (i : Int) else idxP p (i + 1) l
theorem idxP_any (p : ByteArray → Bool) (l : List ByteArray) : ∀ i, decide (0 ≤ idxP p i l) = l.any p := by
  induction l with
  | nil => intro i; rfl
  | cons x l ih =>
    intro i
    unfold idxP
    rw [List.any_cons]
    cases h : p x with
    | true => rw [if_pos rfl]; simp
    | false => rw [if_neg (by decide), ih]; rfl
/-- What is asked of a predicate that is bound to one box. -/
def PredB (g b : Nat) (p : ByteArray → Bool) (l : List ByteArray) (w : World) : Prop := ∀ W x, x ∈ l → Below w.heap.size w W → Calls Tryd.prog g #[.string x, .pointer (some ⟨b, 0, none⟩)] W fun e w' => e = .returned (.bool (p x)) ∧ Below W.heap.size W w'
set_option maxRecDepth 100000 in
set_option maxHeartbeats 1000000 in
theorem idxf_any (w : World) (A : Option Addr) (c : Nat) (l : List ByteArray) (hC : Kd.C Kd.string w A l.length l) (hl : l.length ≤ 1048576) (g b : Nat) (eg : ∀ args w, (callFunc g args).run Tryd.prog w = .ok (.enter g args) w) (p : ByteArray → Bool) (hp : PredB g b p l w) :
    Calls Tryd.prog 73 #[.slice A l.length c, .func (.func g) #[] #[.pointer (some ⟨b, 0, none⟩)]] w fun e w' => e = .returned (.int .i64 (idxP p 0 l)) ∧ Below w.heap.size w w' := by
  have HR := Aside0.mk hC
  have HP := Aside0.mk hp
  have HB0 := Aside0.mk (Below.refl w.heap.size w)
  clear hC hp
  go_enter Tryd.func73, Tryd.ntmps73
  go_wp2_with fail
  go_loopw [8] (fun i wr => ∃ j : Nat, j ≤ l.length ∧ i = .int .i64 (j : Int) ∧ Aside0 (idxP p j (l.drop j) = idxP p 0 l) ∧ Aside0 (Below w.heap.size w wr)) (fun i _ => l.length - (RowKit.intOf i).toNat)
  case atStart => exact ⟨0, Nat.zero_le _, rfl, ⟨rfl⟩, HB0⟩
  case round =>
    obtain ⟨j, hj, rfl, HI, HB⟩ := hrel
    by_cases hlt : j < l.length
    · obtain ⟨ad, e, x0⟩ := C_str HR.out j hlt
      subst e
      have hd := List.drop_eq_getElem_cons hlt
      have hmem := List.getElem_mem hlt
      have hI := HI.out
      rw [hd] at hI
      simp only [idxP] at hI
      have hpw := fun W => HP.out W l[j] hmem
      generalize l[j] = x at x0 hI hpw
      replace x0 := (HB.out.cell (World.block_lt_of_cell? w _ x0)).trans x0
      have HPW := Aside0.mk hpw
      clear hd hmem hpw HI
      have bw : Bel w.heap.size w wr := ⟨fun _ => HB.out⟩
      cases hx : p x with
      | true =>
        rw [if_pos hx] at hI
        have HI := Aside0.mk hI
        have HPW := HPW.out
        rw [hx] at HPW
        have HPW := Aside0.mk HPW
        clear hI hx
        go_wp2_with fail
        refine (HPW.out _ (bel _ _)).mono ?_
        rintro e w1 ⟨rfl, hb1⟩
        have p1 := prev_call hb1
        go_wp2_with fail
        go_ret
        exact ⟨by rw [← HI.out]; rfl, bel _ _⟩
      | false =>
        rw [if_neg (by rw [hx]; decide)] at hI
        have HI := Aside0.mk hI
        have HPW := HPW.out
        rw [hx] at HPW
        have HPW := Aside0.mk HPW
        clear hI hx
        go_wp2_with fail
        refine (HPW.out _ (bel _ _)).mono ?_
        rintro e w1 ⟨rfl, hb1⟩
        have p1 := prev_call hb1
        go_wp2_with fail
        go_roundw
        case rel => exact ⟨j + 1, by omega, by go_num, HI, ⟨bel _ _⟩⟩
        case measure => simp [RowKit.intOf]; omega
    · have hI := HI.out
      rw [List.drop_of_length_le (by omega)] at hI
      have HI' := Aside0.mk hI
      clear hI HI
      go_wp2_with fail
      go_ret
      exact ⟨by rw [← HI'.out]; rfl, HB.out⟩
theorem contf_any (w : World) (A : Option Addr) (c : Nat) (l : List ByteArray) (hC : Kd.C Kd.string w A l.length l) (hl : l.length ≤ 1048576) (g b : Nat) (eg : ∀ args w, (callFunc g args).run Tryd.prog w = .ok (.enter g args) w) (p : ByteArray → Bool) (hp : PredB g b p l w) :
    Calls Tryd.prog 48 #[.slice A l.length c, .func (.func g) #[] #[.pointer (some ⟨b, 0, none⟩)]] w fun e w' => e = .returned (.bool (l.any p)) ∧ Below w.heap.size w w' := by
  rw [← idxP_any p l 0]
  have hi := idxf_any w A c l hC hl g b eg p hp
  generalize idxP p 0 l = z at hi
  have HI := Aside0.mk hi
  clear hi hC hp eg
  go_enter Tryd.func48, Tryd.ntmps48
  go_wp2_with fail
  refine HI.out.mono ?_
  rintro e w1 ⟨rfl, hb1⟩
  go_wp2_with fail
  go_ret
  exact ⟨rfl, hb1⟩
/-- Does a path lie in one of a list? -/
def hasS (s : List ByteArray) (p : ByteArray) : Bool := isP p && s.any fun d => withinS d p
theorem has1_any (w : World) (b : Nat) (p : ByteArray) (hp : p.size ≤ 65536) (h : w.heap[b]? = some (.cells #[.string p] 9 (0, 0))) (l : List ByteArray) : PredB 49 b (fun d => withinS d p) l w := by
  intro W x _ hb
  have hW := (hb.block b (blk_lt h)).trans h
  have hh : Go.Proofs.YtjllbkeobibnkaaDoorK.Holds W b (.cells #[.string p] 9) := ⟨hW⟩
  have x0 : W.cell? ⟨b, 0, none⟩ = some (.string p) := cell_held.trans rfl
  have hwi := fun W => within_c W x p hp
  have HWI := Aside0.mk hwi
  clear hwi hb hh hW h hp
  go_enter Tryd.func49, Tryd.ntmps49
  go_wp2_with fail
  refine (HWI.out _).mono ?_
  rintro e w1 ⟨rfl, hb1⟩
  go_wp2_with fail
  go_ret
  exact ⟨rfl, hb1⟩
set_option maxHeartbeats 1000000 in
theorem Has_any (w : World) (A : Option Addr) (c : Nat) (l : List ByteArray) (p : ByteArray) (hC : Kd.C Kd.string w A l.length l) (hl : l.length ≤ 1048576) (hp : p.size ≤ 65536) :
    Calls Tryd.prog 20 #[.slice A l.length c, .string p] w fun e w' => e = .returned (.bool (hasS l p)) ∧ Below w.heap.size w w' := by
  have hk := fun W => Kind_any W p hp
  have eg : ∀ args w, (callFunc 49 args).run Tryd.prog w = .ok (.enter 49 args) w := enters_of Tryd.func49 (by kernel_rfl) rfl
  have EG := Aside0.mk eg
  have HC := Aside0.mk hC
  have HP := Aside0.mk hp
  have HL := Aside0.mk hl
  unfold hasS isP
  generalize kindS p = r at hk
  obtain ⟨k, e⟩ := r
  dsimp only at hk ⊢
  by_cases h0 : e = 0
  · subst h0
    have HK := Aside0.mk hk
    clear hk hC hp hl eg
    go_enter Tryd.func20, Tryd.ntmps20
    go_wp2_with fail
    refine (HK.out _).mono ?_
    rintro e w1 ⟨rfl, hb1⟩
    have p1 := prev_call hb1
    go_wp2_with fail
    refine (contf_any w1 A c l (Kd.C_below HC.out (bel _ _)) HL.out _ w.heap.size EG.out _ (has1_any w1 w.heap.size p HP.out held l)).mono ?_
    rintro e w2 ⟨rfl, hb2⟩
    have p2 := prev_call hb2
    go_wp2_with fail
    go_ret
    exact ⟨rfl, bel _ _⟩
  · have h1 : (e == 0) = false := beq_eq_false_iff_ne.mpr h0
    have h2 : (e != 0) = true := bne_iff_ne.mpr h0
    rw [h1]
    have HK := Aside0.mk hk
    clear hk hC hp hl eg h0
    go_enter Tryd.func20, Tryd.ntmps20
    go_wp2_with fail
    refine (HK.out _).mono ?_
    rintro e w1 ⟨rfl, hb1⟩
    have p1 := prev_call hb1
    go_wp2_with fail
    go_ret
    exact ⟨rfl, bel _ _⟩
def scope_Has.f (l : List ByteArray) (p : ByteArray) : Option Bool := if l.length ≤ 1048576 ∧ p.size ≤ 65536 then some (hasS l p) else none
theorem scope_Has.calls (A0 : Option Addr) (c0 : Nat) (l0 : List ByteArray) (a1 : ByteArray) (r : Bool) (w : World) (hr0 : Kd.C Kd.string w A0 l0.length l0) (hc0 : l0.length ≤ c0) (h : scope_Has.f l0 a1 = some r) :
    Calls Tryd.prog 20 #[.slice A0 l0.length c0, .string a1] w fun e w' => e = .returned (.bool r) ∧ Below w.heap.size w w' := by
  unfold scope_Has.f at h
  split at h
  · rename_i hs
    injection h with h
    subst h
    exact Has_any w A0 c0 l0 a1 hr0 hs.1 hs.2
  · simp at h
end Go.Proofs.YtjllbkeobibnkaaDoor.Q

namespace Go.Proofs.YtjllbkeobibnkaaDoor.Q
open Go.RowKit Go.Proofs.YtjllbkeobibnkaaDoorW.PrintWords Go.Proofs.YtjllbkeobibnkaaDoorW.PrintLast Go.Proofs.YtjllbkeobibnkaaDoorW.PrintMore Go.Proofs.YtjllbkeobibnkaaDoorK
attribute [local go_sem] max2_int min2_int max_two min_two max_three min_three max_four min_four   -- for this text's walks alone
attribute [local go_sem ↓] Go.Proofs.YtjllbkeobibnkaaDoorK.isSome_setCell
set_option linter.unusedVariables false
set_option linter.unusedSimpArgs false

/-! ### scope_within: function 50 -/
def scope_within.f (a0 : ByteArray) (a1 : ByteArray) : Option (Bool) := if a1.toList = a0.toList then (some true) else ((path_Below.f a0 a1).bind fun t146 => (some t146))
set_option maxHeartbeats 8000000 in
set_option maxRecDepth 100000 in
theorem scope_within.calls (a0 : ByteArray) (a1 : ByteArray) (r : Bool) (w : World) (h : scope_within.f a0 a1 = some r) :
    Calls Tryd.prog 50 #[.string a0, .string a1] w fun e w' => e = .returned (.bool r) ∧ Below w.heap.size w w' := by
  have HB := Aside0.mk (Below.refl w.heap.size w)
  have H : (if a1.toList = a0.toList then (some true) else ((path_Below.f a0 a1).bind fun t146 => (some t146))) = some r := h
  clear h
  by_cases c3 : a1.toList = a0.toList
  · rw [if_pos c3] at H
    have c3b0 : (a1.toList == a0.toList) = true := beq_iff_eq.mpr c3
    have c3b1 : (a1.toList != a0.toList) = false := bne_eq_false_iff_eq.mpr c3
    clear c3
    obtain rfl := Option.some.inj H
    go_enter Tryd.func50, Tryd.ntmps50
    go_wp2
    go_ret
    exact ⟨by first | rfl | (simp [errW_none, errW_some] <;> rfl) | (simp [*, errW_none, errW_some] <;> rfl), belU HB.out⟩
  · rw [if_neg c3] at H
    have c3b0 : (a1.toList == a0.toList) = false := beq_eq_false_iff_ne.mpr c3
    have c3b1 : (a1.toList != a0.toList) = true := bne_iff_ne.mpr c3
    replace H := Option.bind_eq_some_iff.mp H
    obtain ⟨t146, A40, H⟩ := H
    replace H : (some t146) = some r := H
    have A4 := Aside0.mk A40
    clear A40
    obtain rfl := Option.some.inj H
    go_enter Tryd.func50, Tryd.ntmps50
    go_wp2_with (first | (go_at_call 74; (with_reducible refine (path_Below.calls a0 a1 t146 _ A4.out).mono ?_); rintro e w5 ⟨rfl, hb⟩; have n0_ := Aside0.mk (below_step (belU HB.out) hb); clear HB; have HB := n0_; clear n0_; (try clear hb); (try clear hb2); (try clear hk); (try clear hi)))
    go_ret
    exact ⟨by first | rfl | (simp [errW_none, errW_some] <;> rfl) | (simp [*, errW_none, errW_some] <;> rfl), belU HB.out⟩

end Go.Proofs.YtjllbkeobibnkaaDoor.Q

namespace Go.Proofs.YtjllbkeobibnkaaDoor.Q
open Go.RowKit Go.Proofs.YtjllbkeobibnkaaDoorW.PrintWords Go.Proofs.YtjllbkeobibnkaaDoorW.PrintLast Go.Proofs.YtjllbkeobibnkaaDoorW.PrintMore Go.Proofs.YtjllbkeobibnkaaDoorK
attribute [local go_sem] max2_int min2_int max_two min_two max_three min_three max_four min_four   -- for this text's walks alone
attribute [local go_sem ↓] Go.Proofs.YtjllbkeobibnkaaDoorK.isSome_setCell
set_option linter.unusedVariables false
set_option linter.unusedSimpArgs false

/-! ### scope_dir: function 68 -/
def scope_dir.f (a0 : ByteArray) : Option (Int) := (path_Kind.f a0).bind fun bt147 => (if bt147.2 = 0 then (if bt147.1 = 2 then (some 13) else (some bt147.2)) else (some bt147.2))
set_option maxHeartbeats 8000000 in
set_option maxRecDepth 100000 in
theorem scope_dir.calls (a0 : ByteArray) (r : Int) (w : World) (h : scope_dir.f a0 = some r) :
    Calls Tryd.prog 68 #[.string a0] w fun e w' => e = .returned (.int .i64 r) ∧ Below w.heap.size w w' := by
  have HB := Aside0.mk (Below.refl w.heap.size w)
  have H : ((path_Kind.f a0).bind fun bt147 => (if bt147.2 = 0 then (if bt147.1 = 2 then (some 13) else (some bt147.2)) else (some bt147.2))) = some r := h
  clear h
  replace H := Option.bind_eq_some_iff.mp H
  obtain ⟨⟨t147, t148⟩, A20, H⟩ := H
  replace H : (if t148 = 0 then (if t147 = 2 then (some 13) else (some t148)) else (some t148)) = some r := H
  have A2 := Aside0.mk A20
  clear A20
  by_cases c3 : t148 = 0
  · rw [if_pos c3] at H
    have c3b0 : (t148 == 0) = true := beq_iff_eq.mpr c3
    have c3b1 : (t148 != 0) = false := bne_eq_false_iff_eq.mpr c3
    clear c3
    by_cases c4 : t147 = 2
    · rw [if_pos c4] at H
      have c4b0 : (t147 == 2) = true := beq_iff_eq.mpr c4
      have c4b1 : (t147 != 2) = false := bne_eq_false_iff_eq.mpr c4
      clear c4
      obtain rfl := Option.some.inj H
      go_enter Tryd.func68, Tryd.ntmps68
      go_wp2_with (first | ((with_reducible refine gate_callee (f := 47) rfl ?_); refine goesL_ (some 7) rfl rfl Tryd.func47 (by kernel_rfl) rfl #[.string a0] rfl (by (try simp only [List.map_toArray, List.map_cons, List.map_nil]); first | done | rfl | (simp only [List.length_drop, List.length_take]; rfl)) ?_; (with_reducible refine (path_Kind.calls a0 t147 t148 _ A2.out).mono ?_); rintro e w5 ⟨rfl, hb⟩; refine ⟨_, rfl, ?_⟩; have n0_ := Aside0.mk (below_step (belU HB.out) hb); clear HB; have HB := n0_; clear n0_; (try clear hb); (try clear hb2); (try clear hk); (try clear hi)))
      go_ret
      exact ⟨by first | rfl | (simp [errW_none, errW_some] <;> rfl) | (simp [*, errW_none, errW_some] <;> rfl), belU HB.out⟩
    · rw [if_neg c4] at H
      have c4b0 : (t147 == 2) = false := beq_eq_false_iff_ne.mpr c4
      have c4b1 : (t147 != 2) = true := bne_iff_ne.mpr c4
      obtain rfl := Option.some.inj H
      go_enter Tryd.func68, Tryd.ntmps68
      go_wp2_with (first | ((with_reducible refine gate_callee (f := 47) rfl ?_); refine goesL_ (some 7) rfl rfl Tryd.func47 (by kernel_rfl) rfl #[.string a0] rfl (by (try simp only [List.map_toArray, List.map_cons, List.map_nil]); first | done | rfl | (simp only [List.length_drop, List.length_take]; rfl)) ?_; (with_reducible refine (path_Kind.calls a0 t147 t148 _ A2.out).mono ?_); rintro e w6 ⟨rfl, hb⟩; refine ⟨_, rfl, ?_⟩; have n0_ := Aside0.mk (below_step (belU HB.out) hb); clear HB; have HB := n0_; clear n0_; (try clear hb); (try clear hb2); (try clear hk); (try clear hi)))
      go_ret
      exact ⟨by first | rfl | (simp [errW_none, errW_some] <;> rfl) | (simp [*, errW_none, errW_some] <;> rfl), belU HB.out⟩
  · rw [if_neg c3] at H
    have c3b0 : (t148 == 0) = false := beq_eq_false_iff_ne.mpr c3
    have c3b1 : (t148 != 0) = true := bne_iff_ne.mpr c3
    obtain rfl := Option.some.inj H
    go_enter Tryd.func68, Tryd.ntmps68
    go_wp2_with (first | ((with_reducible refine gate_callee (f := 47) rfl ?_); refine goesL_ (some 7) rfl rfl Tryd.func47 (by kernel_rfl) rfl #[.string a0] rfl (by (try simp only [List.map_toArray, List.map_cons, List.map_nil]); first | done | rfl | (simp only [List.length_drop, List.length_take]; rfl)) ?_; (with_reducible refine (path_Kind.calls a0 t147 t148 _ A2.out).mono ?_); rintro e w7 ⟨rfl, hb⟩; refine ⟨_, rfl, ?_⟩; have n0_ := Aside0.mk (below_step (belU HB.out) hb); clear HB; have HB := n0_; clear n0_; (try clear hb); (try clear hb2); (try clear hk); (try clear hi)))
    go_ret
    exact ⟨by first | rfl | (simp [errW_none, errW_some] <;> rfl) | (simp [*, errW_none, errW_some] <;> rfl), belU HB.out⟩

end Go.Proofs.YtjllbkeobibnkaaDoor.Q

namespace Go.Proofs.YtjllbkeobibnkaaDoor.Q
open Go.RowKit Go.Proofs.YtjllbkeobibnkaaDoorW.PrintWords Go.Proofs.YtjllbkeobibnkaaDoorW.PrintLast Go.Proofs.YtjllbkeobibnkaaDoorW.PrintMore Go.Proofs.YtjllbkeobibnkaaDoorK
attribute [local go_sem] max2_int min2_int max_two min_two max_three min_three max_four min_four   -- for this text's walks alone
attribute [local go_sem ↓] Go.Proofs.YtjllbkeobibnkaaDoorK.isSome_setCell
set_option linter.unusedVariables false
set_option linter.unusedSimpArgs false

/-! ### scope_May: function 42 -/
def scope_May.l0 : Nat → List ByteArray → List ByteArray → Int → Int → Option (Bool)
  | 0, _, _, _, _ => none
  | k + 1, x0, x5, x6, x7 => if x7 < x6 then (if 0 ≤ x7 then (if x7 < (x5.length : Int) then ((scope_dir.f (rdOf ByteArray.empty x5 x7)).bind fun t150 => (if t150 = 0 then (if x7 > 0 then (if 0 ≤ (wrap64 (x7 - 1)) then (if (wrap64 (x7 - 1)) < (x0.length : Int) then ((path_Compare.f (rdOf ByteArray.empty x0 (wrap64 (x7 - 1))) (rdOf ByteArray.empty x5 x7)).bind fun t152 => (if t152 ≥ 0 then (some false) else ((scope_within.f (rdOf ByteArray.empty x0 (wrap64 (x7 - 1))) (rdOf ByteArray.empty x5 x7)).bind fun t154 => (if t154 = true then (some false) else (scope_May.l0 k x0 x5 x6 (wrap64 (x7 + 1))))))) else (none)) else (none)) else (scope_May.l0 k x0 x5 x6 (wrap64 (x7 + 1)))) else (some false))) else (none)) else (none)) else (some (decide ((x0.length : Int) ≤ 16)))
def scope_May.f (k : Nat) (l0 : List ByteArray) : Option (Bool) := scope_May.l0 k l0 l0 (l0.length : Int) 0
theorem scope_May.mono_l : ∀ k, (∀ y0 y1 y2 y3, LeO (scope_May.l0 k y0 y1 y2 y3) (scope_May.l0 (k + 1) y0 y1 y2 y3))
  | 0 => fun _ _ _ _ r h => by simp [scope_May.l0] at h
  | k + 1 => by
    have ih0 := scope_May.mono_l k
    · intro y0 y1 y2 y3
      unfold scope_May.l0
      repeat' first
      | (with_reducible exact ih0 _ _ _ _)
      | (with_reducible exact LeO.refl _)
      | (with_reducible exact LeO.none _)
      | (with_reducible refine LeO.ite ?_ ?_)
      | (with_reducible refine LeO.bind ?_ (fun _ => ?_))
      | exact ih0 _ _ _ _
      | exact LeO.none _
      | refine LeO.ite ?_ ?_
      | refine LeO.bind ?_ (fun _ => ?_)
theorem scope_May.mono : ∀ a0 k, LeO (scope_May.f k a0) (scope_May.f (k + 1) a0) := by
  intro a0 k
  have ih0 := scope_May.mono_l k
  unfold scope_May.f
  repeat' first
      | (with_reducible exact ih0 _ _ _ _)
      | (with_reducible exact LeO.refl _)
      | (with_reducible exact LeO.none _)
      | (with_reducible refine LeO.ite ?_ ?_)
      | (with_reducible refine LeO.bind ?_ (fun _ => ?_))
      | exact ih0 _ _ _ _
      | exact LeO.none _
      | refine LeO.ite ?_ ?_
      | refine LeO.bind ?_ (fun _ => ?_)
set_option maxHeartbeats 8000000 in
set_option maxRecDepth 100000 in
theorem scope_May.calls (k : Nat) (A0 : Option Addr) (c0 : Nat) (l0 : List ByteArray) (r : Bool) (w : World) (hr0 : Kd.C Kd.string w A0 l0.length l0) (hc0 : l0.length ≤ c0) (h : scope_May.f k l0 = some r) :
    Calls Tryd.prog 42 #[.slice A0 l0.length c0] w fun e w' => e = .returned (.bool r) ∧ Below w.heap.size w w' := by
  have HR0 := Aside0.mk hr0
  have HC0 := Aside0.mk hc0
  clear hr0 hc0
  have HB := Aside0.mk (Below.refl w.heap.size w)
  have H : (scope_May.l0 k l0 l0 (l0.length : Int) 0) = some r := h
  clear h
  have H' := Aside0.mk H
  clear H
  go_enter Tryd.func42, Tryd.ntmps42
  go_wp2
  go_loopg [7] k (fun kq v7 w' => ∃ (x7_1 : Int), v7 = .int .i64 x7_1 ∧ Aside0 (scope_May.l0 kq l0 l0 (l0.length : Int) x7_1 = some r) ∧ Aside0 (kq ≤ k) ∧ Aside0 (Below w.heap.size w w'))
  case atStart => exact ⟨(0), (by first | rfl | (simp; done) | (simp [*]; done)), H', ⟨Nat.le_refl _⟩, ⟨belU HB.out⟩⟩
  case round =>
    clear H'
    obtain ⟨x7_1, rfl, HA, HK1, HB⟩ := hrel
    cases gk with
    | zero => exact absurd HA.out (by simp [scope_May.l0])
    | succ k1 =>
      have H := HA.out
      clear HA
      simp only [scope_May.l0] at H
      by_cases c2 : x7_1 < (l0.length : Int)
      · rw [if_pos c2] at H
        have c2b0 : decide (x7_1 < (l0.length : Int)) = true := decide_eq_true c2
        clear c2
        by_cases c3 : 0 ≤ x7_1
        · rw [if_pos c3] at H
          have c3b0 : decide (0 ≤ x7_1) = true := decide_eq_true c3
          clear c3
          by_cases c4 : x7_1 < (l0.length : Int)
          · rw [if_pos c4] at H
            have c4b0 : decide (x7_1 < (l0.length : Int)) = true := decide_eq_true c4
            clear c4
            replace H := Option.bind_eq_some_iff.mp H
            obtain ⟨t150, A50, H⟩ := H
            replace H : (if t150 = 0 then (if x7_1 > 0 then (if 0 ≤ (wrap64 (x7_1 - 1)) then (if (wrap64 (x7_1 - 1)) < (l0.length : Int) then ((path_Compare.f (rdOf ByteArray.empty l0 (wrap64 (x7_1 - 1))) (rdOf ByteArray.empty l0 x7_1)).bind fun t152 => (if t152 ≥ 0 then (some false) else ((scope_within.f (rdOf ByteArray.empty l0 (wrap64 (x7_1 - 1))) (rdOf ByteArray.empty l0 x7_1)).bind fun t154 => (if t154 = true then (some false) else (scope_May.l0 k1 l0 l0 (l0.length : Int) (wrap64 (x7_1 + 1))))))) else (none)) else (none)) else (scope_May.l0 k1 l0 l0 (l0.length : Int) (wrap64 (x7_1 + 1)))) else (some false)) = some r := H
            have A5 := Aside0.mk A50
            clear A50
            by_cases c6 : t150 = 0
            · rw [if_pos c6] at H
              have c6b0 : (t150 == 0) = true := beq_iff_eq.mpr c6
              have c6b1 : (t150 != 0) = false := bne_eq_false_iff_eq.mpr c6
              clear c6
              by_cases c7 : x7_1 > 0
              · rw [if_pos c7] at H
                have c7b0 : decide (0 < x7_1) = true := decide_eq_true c7
                clear c7
                obtain ⟨ji8, hji8⟩ : ∃ j_ : Int, (wrap64 (x7_1 - 1)) = j_ := ⟨_, rfl⟩
                replace H : (if 0 ≤ (ji8) then (if (ji8) < (l0.length : Int) then ((path_Compare.f (rdOf ByteArray.empty l0 (ji8)) (rdOf ByteArray.empty l0 x7_1)).bind fun t152 => (if t152 ≥ 0 then (some false) else ((scope_within.f (rdOf ByteArray.empty l0 (ji8)) (rdOf ByteArray.empty l0 x7_1)).bind fun t154 => (if t154 = true then (some false) else (scope_May.l0 k1 l0 l0 (l0.length : Int) (wrap64 (x7_1 + 1))))))) else (none)) else (none)) = some r := by first | (rw [hji8] at H; exact H) | (simp only [hji8] at H ⊢; exact H)
                (try rw [hji8] at A5)
                have hji8w : (IntKind.i64.wrap (x7_1 - 1)) = ji8 := (i64_w _).trans hji8
                by_cases c9 : 0 ≤ (ji8)
                · rw [if_pos c9] at H
                  have c9b0 : decide (0 ≤ (ji8)) = true := decide_eq_true c9
                  clear c9
                  by_cases c10 : (ji8) < (l0.length : Int)
                  · rw [if_pos c10] at H
                    have c10b0 : decide ((ji8) < (l0.length : Int)) = true := decide_eq_true c10
                    clear c10
                    replace H := Option.bind_eq_some_iff.mp H
                    obtain ⟨t152, A110, H⟩ := H
                    replace H : (if t152 ≥ 0 then (some false) else ((scope_within.f (rdOf ByteArray.empty l0 (ji8)) (rdOf ByteArray.empty l0 x7_1)).bind fun t154 => (if t154 = true then (some false) else (scope_May.l0 k1 l0 l0 (l0.length : Int) (wrap64 (x7_1 + 1)))))) = some r := H
                    have A11 := Aside0.mk A110
                    clear A110
                    by_cases c12 : t152 ≥ 0
                    · rw [if_pos c12] at H
                      have c12b0 : decide (0 ≤ t152) = true := decide_eq_true c12
                      clear c12
                      obtain rfl := Option.some.inj H
                      have p149 : 0 ≤ (x7_1 : Int) := of_decide_eq_true (by first | (with_reducible assumption) | assumption)
                      have q149 : x7_1 < (l0.length : Int) := of_decide_eq_true (by first | (with_reducible assumption) | assumption)
                      obtain ⟨ad149, e149, hx149_0⟩ := Kd.at_string HR0.out x7_1 p149 q149
                      cases e149
                      replace hx149_0 := (HB.out.cell (World.block_lt_of_cell? w _ hx149_0)).trans hx149_0
                      replace p149 := eq_true p149
                      replace q149 := eq_true q149
                      go_wp2_with (first | ((with_reducible refine gate_callee (f := 68) rfl ?_); refine goesL_ (some 13) rfl rfl Tryd.func68 (by kernel_rfl) rfl #[.string (rdOf ByteArray.empty l0 x7_1)] rfl (by (try simp only [List.map_toArray, List.map_cons, List.map_nil]); first | done | rfl | (simp only [List.length_drop, List.length_take]; rfl)) ?_; (with_reducible refine (scope_dir.calls (rdOf ByteArray.empty l0 x7_1) t150 _ A5.out).mono ?_); rintro e w13 ⟨rfl, hb⟩; refine ⟨_, rfl, ?_⟩; have n0_ := Aside0.mk (below_step (belU HB.out) hb); clear HB; have HB := n0_; clear n0_; (try clear hb); (try clear hb2); (try clear hk); (try clear hi); have p151 : 0 ≤ ((ji8) : Int) := of_decide_eq_true (by first | (with_reducible assumption) | assumption); have q151 : (ji8) < (l0.length : Int) := of_decide_eq_true (by first | (with_reducible assumption) | assumption); obtain ⟨ad151, e151, hx151_0⟩ := Kd.at_string HR0.out (ji8) p151 q151; obtain rfl : ad149 = ad151 := (by injection e151); replace hx151_0 := (HB.out.cell (World.block_lt_of_cell? w _ hx151_0)).trans hx151_0; replace p151 := eq_true p151; replace q151 := eq_true q151) | (go_at_call 61; (with_reducible refine (path_Compare.calls (rdOf ByteArray.empty l0 (ji8)) (rdOf ByteArray.empty l0 x7_1) t152 _ A11.out).mono ?_); rintro e w14 ⟨rfl, hb⟩; have n0_ := Aside0.mk (below_step (belU HB.out) hb); clear HB; have HB := n0_; clear n0_; (try clear hb); (try clear hb2); (try clear hk); (try clear hi)))
                      go_ret
                      exact ⟨by first | rfl | (simp [errW_none, errW_some] <;> rfl) | (simp only [← hji8]; first | rfl | (simp [errW_none, errW_some] <;> rfl)) | (simp [*, errW_none, errW_some] <;> rfl), belU HB.out⟩
                    · rw [if_neg c12] at H
                      have c12b0 : decide (0 ≤ t152) = false := decide_eq_false c12
                      clear c12
                      replace H := Option.bind_eq_some_iff.mp H
                      obtain ⟨t154, A150, H⟩ := H
                      replace H : (if t154 = true then (some false) else (scope_May.l0 k1 l0 l0 (l0.length : Int) (wrap64 (x7_1 + 1)))) = some r := H
                      have A15 := Aside0.mk A150
                      clear A150
                      by_cases c16 : t154 = true
                      · subst c16
                        have H1 : (some false) = some r := by rw [if_pos rfl] at H; exact H
                        clear H
                        have H := H1
                        clear H1
                        obtain rfl := Option.some.inj H
                        have p149 : 0 ≤ (x7_1 : Int) := of_decide_eq_true (by first | (with_reducible assumption) | assumption)
                        have q149 : x7_1 < (l0.length : Int) := of_decide_eq_true (by first | (with_reducible assumption) | assumption)
                        obtain ⟨ad149, e149, hx149_0⟩ := Kd.at_string HR0.out x7_1 p149 q149
                        cases e149
                        replace hx149_0 := (HB.out.cell (World.block_lt_of_cell? w _ hx149_0)).trans hx149_0
                        replace p149 := eq_true p149
                        replace q149 := eq_true q149
                        go_wp2_with (first | ((with_reducible refine gate_callee (f := 68) rfl ?_); refine goesL_ (some 13) rfl rfl Tryd.func68 (by kernel_rfl) rfl #[.string (rdOf ByteArray.empty l0 x7_1)] rfl (by (try simp only [List.map_toArray, List.map_cons, List.map_nil]); first | done | rfl | (simp only [List.length_drop, List.length_take]; rfl)) ?_; (with_reducible refine (scope_dir.calls (rdOf ByteArray.empty l0 x7_1) t150 _ A5.out).mono ?_); rintro e w17 ⟨rfl, hb⟩; refine ⟨_, rfl, ?_⟩; have n0_ := Aside0.mk (below_step (belU HB.out) hb); clear HB; have HB := n0_; clear n0_; (try clear hb); (try clear hb2); (try clear hk); (try clear hi); have p151 : 0 ≤ ((ji8) : Int) := of_decide_eq_true (by first | (with_reducible assumption) | assumption); have q151 : (ji8) < (l0.length : Int) := of_decide_eq_true (by first | (with_reducible assumption) | assumption); obtain ⟨ad151, e151, hx151_0⟩ := Kd.at_string HR0.out (ji8) p151 q151; obtain rfl : ad149 = ad151 := (by injection e151); replace hx151_0 := (HB.out.cell (World.block_lt_of_cell? w _ hx151_0)).trans hx151_0; replace p151 := eq_true p151; replace q151 := eq_true q151) | (go_at_call 61; (with_reducible refine (path_Compare.calls (rdOf ByteArray.empty l0 (ji8)) (rdOf ByteArray.empty l0 x7_1) t152 _ A11.out).mono ?_); rintro e w18 ⟨rfl, hb⟩; have n0_ := Aside0.mk (below_step (belU HB.out) hb); clear HB; have HB := n0_; clear n0_; (try clear hb); (try clear hb2); (try clear hk); (try clear hi); have p153 : 0 ≤ ((ji8) : Int) := of_decide_eq_true (by first | (with_reducible assumption) | assumption); have q153 : (ji8) < (l0.length : Int) := of_decide_eq_true (by first | (with_reducible assumption) | assumption); obtain ⟨ad153, e153, hx153_0⟩ := Kd.at_string HR0.out (ji8) p153 q153; obtain rfl : ad149 = ad153 := (by injection e153); replace hx153_0 := (HB.out.cell (World.block_lt_of_cell? w _ hx153_0)).trans hx153_0; replace p153 := eq_true p153; replace q153 := eq_true q153) | (go_at_call 50; (with_reducible refine (scope_within.calls (rdOf ByteArray.empty l0 (ji8)) (rdOf ByteArray.empty l0 x7_1) true _ A15.out).mono ?_); rintro e w19 ⟨rfl, hb⟩; have n0_ := Aside0.mk (below_step (belU HB.out) hb); clear HB; have HB := n0_; clear n0_; (try clear hb); (try clear hb2); (try clear hk); (try clear hi)))
                        go_ret
                        exact ⟨by first | rfl | (simp [errW_none, errW_some] <;> rfl) | (simp only [← hji8]; first | rfl | (simp [errW_none, errW_some] <;> rfl)) | (simp [*, errW_none, errW_some] <;> rfl), belU HB.out⟩
                      · replace c16 := Bool.eq_false_iff.mpr c16
                        subst c16
                        have H1 : (scope_May.l0 k1 l0 l0 (l0.length : Int) (wrap64 (x7_1 + 1))) = some r := by rw [if_neg (show ¬ (false = true) by decide)] at H; exact H
                        clear H
                        have H := H1
                        clear H1
                        have H' := Aside0.mk H
                        clear H
                        have p149 : 0 ≤ (x7_1 : Int) := of_decide_eq_true (by first | (with_reducible assumption) | assumption)
                        have q149 : x7_1 < (l0.length : Int) := of_decide_eq_true (by first | (with_reducible assumption) | assumption)
                        obtain ⟨ad149, e149, hx149_0⟩ := Kd.at_string HR0.out x7_1 p149 q149
                        cases e149
                        replace hx149_0 := (HB.out.cell (World.block_lt_of_cell? w _ hx149_0)).trans hx149_0
                        replace p149 := eq_true p149
                        replace q149 := eq_true q149
                        go_wp2_with (first | ((with_reducible refine gate_callee (f := 68) rfl ?_); refine goesL_ (some 13) rfl rfl Tryd.func68 (by kernel_rfl) rfl #[.string (rdOf ByteArray.empty l0 x7_1)] rfl (by (try simp only [List.map_toArray, List.map_cons, List.map_nil]); first | done | rfl | (simp only [List.length_drop, List.length_take]; rfl)) ?_; (with_reducible refine (scope_dir.calls (rdOf ByteArray.empty l0 x7_1) t150 _ A5.out).mono ?_); rintro e w20 ⟨rfl, hb⟩; refine ⟨_, rfl, ?_⟩; have n0_ := Aside0.mk (below_step (belU HB.out) hb); clear HB; have HB := n0_; clear n0_; (try clear hb); (try clear hb2); (try clear hk); (try clear hi); have p151 : 0 ≤ ((ji8) : Int) := of_decide_eq_true (by first | (with_reducible assumption) | assumption); have q151 : (ji8) < (l0.length : Int) := of_decide_eq_true (by first | (with_reducible assumption) | assumption); obtain ⟨ad151, e151, hx151_0⟩ := Kd.at_string HR0.out (ji8) p151 q151; obtain rfl : ad149 = ad151 := (by injection e151); replace hx151_0 := (HB.out.cell (World.block_lt_of_cell? w _ hx151_0)).trans hx151_0; replace p151 := eq_true p151; replace q151 := eq_true q151) | (go_at_call 61; (with_reducible refine (path_Compare.calls (rdOf ByteArray.empty l0 (ji8)) (rdOf ByteArray.empty l0 x7_1) t152 _ A11.out).mono ?_); rintro e w21 ⟨rfl, hb⟩; have n0_ := Aside0.mk (below_step (belU HB.out) hb); clear HB; have HB := n0_; clear n0_; (try clear hb); (try clear hb2); (try clear hk); (try clear hi); have p153 : 0 ≤ ((ji8) : Int) := of_decide_eq_true (by first | (with_reducible assumption) | assumption); have q153 : (ji8) < (l0.length : Int) := of_decide_eq_true (by first | (with_reducible assumption) | assumption); obtain ⟨ad153, e153, hx153_0⟩ := Kd.at_string HR0.out (ji8) p153 q153; obtain rfl : ad149 = ad153 := (by injection e153); replace hx153_0 := (HB.out.cell (World.block_lt_of_cell? w _ hx153_0)).trans hx153_0; replace p153 := eq_true p153; replace q153 := eq_true q153) | (go_at_call 50; (with_reducible refine (scope_within.calls (rdOf ByteArray.empty l0 (ji8)) (rdOf ByteArray.empty l0 x7_1) false _ A15.out).mono ?_); rintro e w22 ⟨rfl, hb⟩; have n0_ := Aside0.mk (below_step (belU HB.out) hb); clear HB; have HB := n0_; clear n0_; (try clear hb); (try clear hb2); (try clear hk); (try clear hi)))
                        go_roundg k1
                        case measure => have := HK1.out; omega
                        case rel => exact ⟨(wrap64 (x7_1 + 1)), (by first | rfl | (simp; done) | (simp [*]; done)), H', ⟨by have := HK1.out; omega⟩, ⟨belU HB.out⟩⟩
                  · rw [if_neg c10] at H
                    exact absurd H (by simp)
                · rw [if_neg c9] at H
                  exact absurd H (by simp)
              · rw [if_neg c7] at H
                have c7b0 : decide (0 < x7_1) = false := decide_eq_false c7
                clear c7
                have H' := Aside0.mk H
                clear H
                have p149 : 0 ≤ (x7_1 : Int) := of_decide_eq_true (by first | (with_reducible assumption) | assumption)
                have q149 : x7_1 < (l0.length : Int) := of_decide_eq_true (by first | (with_reducible assumption) | assumption)
                obtain ⟨ad149, e149, hx149_0⟩ := Kd.at_string HR0.out x7_1 p149 q149
                cases e149
                replace hx149_0 := (HB.out.cell (World.block_lt_of_cell? w _ hx149_0)).trans hx149_0
                replace p149 := eq_true p149
                replace q149 := eq_true q149
                go_wp2_with (first | ((with_reducible refine gate_callee (f := 68) rfl ?_); refine goesL_ (some 13) rfl rfl Tryd.func68 (by kernel_rfl) rfl #[.string (rdOf ByteArray.empty l0 x7_1)] rfl (by (try simp only [List.map_toArray, List.map_cons, List.map_nil]); first | done | rfl | (simp only [List.length_drop, List.length_take]; rfl)) ?_; (with_reducible refine (scope_dir.calls (rdOf ByteArray.empty l0 x7_1) t150 _ A5.out).mono ?_); rintro e w23 ⟨rfl, hb⟩; refine ⟨_, rfl, ?_⟩; have n0_ := Aside0.mk (below_step (belU HB.out) hb); clear HB; have HB := n0_; clear n0_; (try clear hb); (try clear hb2); (try clear hk); (try clear hi)))
                go_roundg k1
                case measure => have := HK1.out; omega
                case rel => exact ⟨(wrap64 (x7_1 + 1)), (by first | rfl | (simp; done) | (simp [*]; done)), H', ⟨by have := HK1.out; omega⟩, ⟨belU HB.out⟩⟩
            · rw [if_neg c6] at H
              have c6b0 : (t150 == 0) = false := beq_eq_false_iff_ne.mpr c6
              have c6b1 : (t150 != 0) = true := bne_iff_ne.mpr c6
              obtain rfl := Option.some.inj H
              have p149 : 0 ≤ (x7_1 : Int) := of_decide_eq_true (by first | (with_reducible assumption) | assumption)
              have q149 : x7_1 < (l0.length : Int) := of_decide_eq_true (by first | (with_reducible assumption) | assumption)
              obtain ⟨ad149, e149, hx149_0⟩ := Kd.at_string HR0.out x7_1 p149 q149
              cases e149
              replace hx149_0 := (HB.out.cell (World.block_lt_of_cell? w _ hx149_0)).trans hx149_0
              replace p149 := eq_true p149
              replace q149 := eq_true q149
              go_wp2_with (first | ((with_reducible refine gate_callee (f := 68) rfl ?_); refine goesL_ (some 13) rfl rfl Tryd.func68 (by kernel_rfl) rfl #[.string (rdOf ByteArray.empty l0 x7_1)] rfl (by (try simp only [List.map_toArray, List.map_cons, List.map_nil]); first | done | rfl | (simp only [List.length_drop, List.length_take]; rfl)) ?_; (with_reducible refine (scope_dir.calls (rdOf ByteArray.empty l0 x7_1) t150 _ A5.out).mono ?_); rintro e w24 ⟨rfl, hb⟩; refine ⟨_, rfl, ?_⟩; have n0_ := Aside0.mk (below_step (belU HB.out) hb); clear HB; have HB := n0_; clear n0_; (try clear hb); (try clear hb2); (try clear hk); (try clear hi)))
              go_ret
              exact ⟨by first | rfl | (simp [errW_none, errW_some] <;> rfl) | (simp [*, errW_none, errW_some] <;> rfl), belU HB.out⟩
          · rw [if_neg c4] at H
            exact absurd H (by simp)
        · rw [if_neg c3] at H
          exact absurd H (by simp)
      · rw [if_neg c2] at H
        have c2b0 : decide (x7_1 < (l0.length : Int)) = false := decide_eq_false c2
        clear c2
        obtain rfl := Option.some.inj H
        go_wp2
        go_ret
        exact ⟨by first | rfl | (simp [errW_none, errW_some] <;> rfl) | (simp [*, errW_none, errW_some] <;> rfl), belU HB.out⟩

end Go.Proofs.YtjllbkeobibnkaaDoor.Q

namespace Go.Proofs.YtjllbkeobibnkaaDoor.Q
open Go Go.Proofs Go.Shelf Go.RowKit Go.Lib Go.Sort Go.Proofs.YtjllbkeobibnkaaDoorP Go.Proofs.YtjllbkeobibnkaaDoorK Go.Proofs.YtjllbkeobibnkaaDoorW.PrintWords Go.Proofs.YtjllbkeobibnkaaDoorW.PrintLast Go.Proofs.YtjllbkeobibnkaaDoorW.PrintMore
set_option linter.unusedSimpArgs false
set_option linter.unusedVariables false
/-! ### scope.May: what the printed function computes -/
theorem wr0 (i : Nat) (h : i < 1048577) (h0 : 0 < i) : wrap64 ((i : Int) - 1) = ((i - 1 : Nat) : Int) := by unfold wrap64; omega
theorem tlB (a b : ByteArray) : a.toList = b.toList ↔ a = b := by
  rw [ByteArray.toList_eq, ByteArray.toList_eq]
  exact ⟨fun h => ByteArray.ext (Array.ext' h), fun h => by rw [h]⟩
def dirS (p : ByteArray) : Int := if (kindS p).2 = 0 ∧ (kindS p).1 = 2 then 13 else (kindS p).2
theorem dir_fn {p : ByteArray} (h : p.size ≤ 65536) : scope_dir.f p = some (dirS p) := by
  unfold scope_dir.f path_Kind.f dirS
  rw [if_pos h, Option.bind_some]
  by_cases h1 : (kindS p).2 = 0
  · rw [if_pos h1]
    by_cases h2 : (kindS p).1 = 2
    · rw [if_pos h2, if_pos ⟨h1, h2⟩]
    · rw [if_neg h2, if_neg (fun h => h2 h.2)]
  · rw [if_neg h1, if_neg (fun h => h1 h.1)]
theorem within_fn {d p : ByteArray} (h : p.size ≤ 65536) : scope_within.f d p = some (withinS d p) := by
  unfold scope_within.f path_Below.f withinS
  rw [if_pos h]
  by_cases h1 : p.toList = d.toList
  · rw [if_pos h1, beq_iff_eq.mpr h1]
    rfl
  · rw [if_neg h1, beq_eq_false_iff_ne.mpr h1]
    rfl
def mayA : Option ByteArray → List ByteArray → Bool
  | _, [] => true
  | none, p :: l => dirS p == 0 && mayA (some p) l
  | some q, p :: l => dirS p == 0 && (decide (pcmp q p < 0) && (!withinS q p && mayA (some p) l))
def prevB (l : List ByteArray) (i : Nat) : Option ByteArray := if i = 0 then none else l[i - 1]?
def mayS (l : List ByteArray) : Bool := mayA none l && decide (l.length ≤ 16)
theorem may_loop (l : List ByteArray) (hs : shortP l = true) (d : Nat) : ∀ (i k : Nat), i + d = l.length → d < k → scope_May.l0 k l l (l.length : Int) (i : Int) = some (mayA (prevB l i) (l.drop i) && decide (l.length ≤ 16)) := by
  obtain ⟨hl, hm⟩ := shortP_mem hs
  induction d with
  | zero =>
    intro i k h hk
    obtain ⟨k, rfl⟩ : ∃ q, k = q + 1 := ⟨k - 1, by omega⟩
    unfold scope_May.l0
    rw [if_neg (by omega), List.drop_of_length_le (by omega)]
    have e : mayA (prevB l i) [] = true := by cases prevB l i <;> rfl
    rw [e, Bool.true_and]
    congr 1
    rw [decide_eq_decide]
    omega
  | succ d ih =>
    intro i k h hk
    obtain ⟨k, rfl⟩ : ∃ q, k = q + 1 := ⟨k - 1, by omega⟩
    have hi : i < l.length := by omega
    have hn : prevB l (i + 1) = some l[i] := by unfold prevB; rw [if_neg (by omega)]; simp [hi]
    unfold scope_May.l0
    rw [if_pos (by omega), if_pos (by omega), if_pos (by omega), rdB l i hi, dir_fn (hm _ (List.getElem_mem hi)), Option.bind_some, List.drop_eq_getElem_cons hi, wr1 i (by omega), ih (i + 1) k (by omega) (by omega), hn]
    by_cases h0 : dirS l[i] = 0
    · rw [if_pos h0]
      by_cases hi0 : i = 0
      · subst hi0
        have e : prevB l 0 = none := rfl
        rw [if_neg (by omega), e]
        simp [mayA, h0]
      · have hp : i - 1 < l.length := by omega
        have e : prevB l i = some l[i - 1] := by unfold prevB; rw [if_neg hi0]; simp [hp]
        rw [if_pos (by omega), wr0 i (by omega) (by omega), if_pos (by omega), if_pos (by omega), rdB l (i - 1) hp, e, within_fn (hm _ (List.getElem_mem hi)), Option.bind_some]
        unfold path_Compare.f
        rw [if_pos ⟨hm _ (List.getElem_mem hp), hm _ (List.getElem_mem hi)⟩, Option.bind_some]
        simp only [mayA, h0, beq_self_eq_true, Bool.true_and]
        by_cases hc : pcmp l[i - 1] l[i] < 0
        · rw [if_neg (by omega), decide_eq_true hc, Bool.true_and]
          cases withinS l[i - 1] l[i] <;> simp
        · rw [if_pos (by omega), decide_eq_false hc]
          simp
    · rw [if_neg h0]
      have e : (dirS l[i] == 0) = false := beq_eq_false_iff_ne.mpr h0
      cases prevB l i <;> simp [mayA, e]
theorem may_fn {l : List ByteArray} (hs : shortP l = true) (k : Nat) (hk : l.length < k) : scope_May.f k l = some (mayS l) := by
  have h := may_loop l hs l.length 0 k (by omega) hk
  unfold scope_May.f mayS
  simpa [prevB] using h
theorem may_len {l : List ByteArray} (h : mayS l = true) : l.length ≤ 16 := by
  unfold mayS at h
  simp only [Bool.and_eq_true, decide_eq_true_eq] at h
  exact h.2
theorem may_any (w : World) (A : Option Addr) (c : Nat) (l : List ByteArray) (hC : Kd.C Kd.string w A l.length l) (hc : l.length ≤ c) (hs : shortP l = true) :
    Calls Tryd.prog 42 #[.slice A l.length c] w fun e w' => e = .returned (.bool (mayS l)) ∧ Below w.heap.size w w' :=
  scope_May.calls (l.length + 1) A c l _ w hC hc (may_fn hs _ (by omega))
end Go.Proofs.YtjllbkeobibnkaaDoor.Q

namespace Go.Proofs.YtjllbkeobibnkaaDoor.Q
open Go Go.Proofs Go.RowKit Go.Lib Go.Sort Go.Proofs.YtjllbkeobibnkaaDoorP Go.Proofs.YtjllbkeobibnkaaDoorK
set_option linter.unusedVariables false
/-! ### What a list has of a path; what with and without leave. Plain: no program here -/
def getK : List S58 → ByteArray → Option S51
  | [], _ => none
  | k :: l, p => if k.f0 = p then some k.f1 else getK l p
theorem eqP_iff (p : ByteArray) (k : S58) : eqP p k = true ↔ k.f0 = p := by
  unfold eqP
  rw [beq_iff_eq]
  exact tlB _ _
theorem find_get (l : List S58) (p : ByteArray) : findS l p = (match getK l p with | some a => (a, true) | none => (z51, false)) := by
  induction l with
  | nil => rfl
  | cons k l ih =>
    unfold findS getK
    by_cases h : k.f0 = p
    · rw [if_pos ((eqP_iff p k).2 h), if_pos h]
    · rw [if_neg (fun e => h ((eqP_iff p k).1 e)), if_neg h]
      exact ih
theorem get_mem {l : List S58} {p : ByteArray} {a : S51} (h : getK l p = some a) : (⟨p, a⟩ : S58) ∈ l := by
  induction l with
  | nil => cases h
  | cons k l ih =>
    unfold getK at h
    by_cases hk : k.f0 = p
    · rw [if_pos hk] at h
      injection h with h
      rw [← hk, ← h]
      exact List.mem_cons_self
    · rw [if_neg hk] at h
      exact List.mem_cons_of_mem _ (ih h)
theorem get_none {l : List S58} {p : ByteArray} : getK l p = none ↔ ∀ k ∈ l, k.f0 ≠ p := by
  induction l with
  | nil => simp [getK]
  | cons k l ih =>
    unfold getK
    by_cases hk : k.f0 = p
    · rw [if_pos hk]
      exact ⟨fun h => (by cases h), fun h => absurd hk (h k List.mem_cons_self)⟩
    · rw [if_neg hk, ih]
      exact ⟨fun h x hx => by rcases List.mem_cons.1 hx with e | hx; (rw [e]; exact hk); exact h x hx, fun h x hx => h x (List.mem_cons_of_mem _ hx)⟩
theorem mem_get {l : List S58} (hr : risK l) {k : S58} (h : k ∈ l) : getK l k.f0 = some k.f1 := by
  induction l with
  | nil => simp at h
  | cons x l ih =>
    have h1 := List.pairwise_cons.1 hr
    unfold getK
    rcases List.mem_cons.1 h with e | h
    · rw [e, if_pos rfl]
    · have h2 := h1.1 k h
      rw [if_neg (fun e => by rw [e, good_path.refl] at h2; omega)]
      exact ih h1.2 h
def insS (p : ByteArray) (a : S51) : List S58 → List S58
  | [] => [⟨p, a⟩]
  | k :: l => if pcmp k.f0 p < 0 then k :: insS p a l else if pcmp k.f0 p = 0 then ⟨p, a⟩ :: l else ⟨p, a⟩ :: k :: l
theorem withS_ins (p : ByteArray) (a : S51) (l : List S58) : withS l p a = insS p a l := by
  induction l with
  | nil => rfl
  | cons k l ih =>
    by_cases h : pcmp k.f0 p < 0
    · have e : ltK p k = true := decide_eq_true h
      have e1 : posK p (k :: l) = posK p l + 1 := by unfold posK; rw [List.takeWhile_cons, if_pos e]; rfl
      have e2 : hitK p (k :: l) = hitK p l := by unfold hitK; rw [e1]; rfl
      have e3 : endK p (k :: l) = endK p l + 1 := by
        unfold endK
        rw [e2, e1]
        split <;> rfl
      unfold insS
      rw [if_pos h, ← ih]
      unfold withS
      rw [e1, e3]
      rfl
    · have e : ltK p k = false := decide_eq_false h
      have e1 : posK p (k :: l) = 0 := by unfold posK; rw [List.takeWhile_cons, if_neg (by rw [e]; decide)]; rfl
      have e2 : hitK p (k :: l) = decide (pcmp k.f0 p = 0) := by unfold hitK; rw [e1]; rfl
      unfold insS
      rw [if_neg h]
      unfold withS endK
      rw [e1, e2]
      by_cases h0 : pcmp k.f0 p = 0
      · rw [if_pos h0, if_pos (decide_eq_true h0)]
        rfl
      · rw [if_neg h0, if_neg (by rw [decide_eq_false h0]; decide)]
        rfl
theorem ins_mem {p : ByteArray} {a : S51} {l : List S58} {x : S58} (h : x ∈ insS p a l) : x = ⟨p, a⟩ ∨ x ∈ l := by
  induction l with
  | nil => exact .inl (by simpa [insS] using h)
  | cons k l ih =>
    unfold insS at h
    split at h
    · rcases List.mem_cons.1 h with e | h
      · exact .inr (e ▸ List.mem_cons_self)
      · rcases ih h with e | h
        · exact .inl e
        · exact .inr (List.mem_cons_of_mem _ h)
    · split at h
      · rcases List.mem_cons.1 h with e | h
        · exact .inl e
        · exact .inr (List.mem_cons_of_mem _ h)
      · rcases List.mem_cons.1 h with e | h
        · exact .inl e
        · exact .inr h
theorem ins_len (p : ByteArray) (a : S51) (l : List S58) : (insS p a l).length ≤ l.length + 1 := by
  induction l with
  | nil => exact Nat.le_refl _
  | cons k l ih =>
    unfold insS
    split
    · simp only [List.length_cons]; omega
    · split <;> simp only [List.length_cons] <;> omega
theorem ins_ris {p : ByteArray} {a : S51} {l : List S58} (h : risK l) : risK (insS p a l) := by
  induction l with
  | nil => exact List.pairwise_singleton _ _
  | cons k l ih =>
    have h1 := List.pairwise_cons.1 h
    unfold insS
    by_cases hk : pcmp k.f0 p < 0
    · rw [if_pos hk]
      refine List.pairwise_cons.2 ⟨fun x hx => ?_, ih h1.2⟩
      rcases ins_mem hx with e | hx
      · rw [e]; exact hk
      · exact h1.1 x hx
    · rw [if_neg hk]
      by_cases h0 : pcmp k.f0 p = 0
      · rw [if_pos h0]
        have e := good_path.eq _ _ h0
        refine List.pairwise_cons.2 ⟨fun x hx => ?_, h1.2⟩
        show pcmp p x.f0 < 0
        rw [← e]
        exact h1.1 x hx
      · rw [if_neg h0]
        have hp : pcmp p k.f0 < 0 := (good_path.lt _ _).2 (by omega)
        refine List.pairwise_cons.2 ⟨fun x hx => ?_, h⟩
        show pcmp p x.f0 < 0
        rcases List.mem_cons.1 hx with e | hx
        · rw [e]; exact hp
        · exact good_path.trans _ _ _ hp (h1.1 x hx)
theorem ins_get (p : ByteArray) (a : S51) (l : List S58) (q : ByteArray) : getK (insS p a l) q = if q = p then some a else getK l q := by
  induction l with
  | nil =>
    unfold insS getK
    by_cases h : p = q
    · rw [if_pos h, if_pos h.symm]
    · rw [if_neg h, if_neg (fun e => h e.symm)]
      rfl
  | cons k l ih =>
    unfold insS
    by_cases hk : pcmp k.f0 p < 0
    · rw [if_pos hk]
      have hne : k.f0 ≠ p := fun e => by rw [e, good_path.refl] at hk; omega
      rw [getK, getK, ih]
      by_cases h1 : k.f0 = q
      · rw [if_pos h1, if_pos h1, if_neg (fun e => hne (h1.trans e))]
      · rw [if_neg h1, if_neg h1]
    · rw [if_neg hk]
      by_cases h0 : pcmp k.f0 p = 0
      · have e := good_path.eq _ _ h0
        rw [if_pos h0, getK, getK, e]
        by_cases h1 : p = q
        · rw [if_pos h1, if_pos h1.symm]
        · rw [if_neg h1, if_neg (fun e => h1 e.symm), if_neg h1]
      · rw [if_neg h0, getK]
        by_cases h1 : p = q
        · rw [if_pos h1, if_pos h1.symm]
        · rw [if_neg h1, if_neg (fun e => h1 e.symm)]
theorem wo_ris {l : List S58} (h : risK l) (p : ByteArray) : risK (woS l p) := List.Pairwise.sublist List.filter_sublist h
theorem wo_get (l : List S58) (p q : ByteArray) : getK (woS l p) q = if q = p then none else getK l q := by
  induction l with
  | nil => unfold woS getK; simp [getK]
  | cons k l ih =>
    unfold woS at ih ⊢
    rw [List.filter_cons]
    by_cases hk : k.f0 = p
    · have e : eqP p k = true := (eqP_iff p k).2 hk
      rw [if_neg (by rw [e]; decide), ih, getK]
      by_cases h1 : q = p
      · rw [if_pos h1, if_pos h1]
      · rw [if_neg h1, if_neg h1, if_neg (fun e => h1 (e.symm.trans hk))]
    · have e : eqP p k = false := by
        cases hq : eqP p k
        · rfl
        · exact absurd ((eqP_iff p k).1 hq) hk
      rw [if_pos (by rw [e]; rfl), getK, getK, ih]
      by_cases h1 : k.f0 = q
      · rw [if_pos h1, if_pos h1, if_neg (fun e => hk (h1.trans e))]
      · rw [if_neg h1, if_neg h1]
theorem wo_mem {l : List S58} {p : ByteArray} {x : S58} (h : x ∈ woS l p) : x ∈ l := (List.mem_filter.1 h).1
theorem wo_len (l : List S58) (p : ByteArray) : (woS l p).length ≤ l.length := List.length_filter_le _ _
/-! ### A list that may be -/
theorem listA_some (least : Int) (l : List S58) : ∀ y, listA least (some y) l = true ↔ (∀ k ∈ l, okK least k = true) ∧ risK l ∧ ∀ k ∈ l, pcmp y k.f0 < 0 := by
  induction l with
  | nil => intro y; exact ⟨fun _ => ⟨by simp, List.Pairwise.nil, by simp⟩, fun _ => rfl⟩
  | cons k l ih =>
    intro y
    unfold listA
    simp only [Bool.and_eq_true, decide_eq_true_eq]
    rw [ih k.f0]
    constructor
    · rintro ⟨h1, h2, h3, h4, h5⟩
      refine ⟨fun x hx => ?_, List.pairwise_cons.2 ⟨h5, h4⟩, fun x hx => ?_⟩
      · rcases List.mem_cons.1 hx with e | hx
        · rw [e]; exact h1
        · exact h3 x hx
      · rcases List.mem_cons.1 hx with e | hx
        · rw [e]; exact h2
        · exact good_path.trans _ _ _ h2 (h5 x hx)
    · rintro ⟨h1, h2, h3⟩
      have h4 := List.pairwise_cons.1 h2
      exact ⟨h1 k List.mem_cons_self, h3 k List.mem_cons_self, fun x hx => h1 x (List.mem_cons_of_mem _ hx), h4.2, h4.1⟩
theorem listA_none (least : Int) (l : List S58) : listA least none l = true ↔ (∀ k ∈ l, okK least k = true) ∧ risK l := by
  cases l with
  | nil => exact ⟨fun _ => ⟨by simp, List.Pairwise.nil⟩, fun _ => rfl⟩
  | cons k l =>
    unfold listA
    simp only [Bool.and_eq_true, true_and]
    rw [listA_some]
    constructor
    · rintro ⟨h1, h3, h4, h5⟩
      refine ⟨fun x hx => ?_, List.pairwise_cons.2 ⟨h5, h4⟩⟩
      rcases List.mem_cons.1 hx with e | hx
      · rw [e]; exact h1
      · exact h3 x hx
    · rintro ⟨h1, h2⟩
      have h4 := List.pairwise_cons.1 h2
      exact ⟨h1 k List.mem_cons_self, fun x hx => h1 x (List.mem_cons_of_mem _ hx), h4.2, h4.1⟩
/-- A list may be: each entry may, and it rises. -/
structure OkL (least : Int) (l : List S58) : Prop where
  ok : ∀ k ∈ l, okK least k = true
  ris : risK l
theorem OkL.ins {least : Int} {l : List S58} (h : OkL least l) {p : ByteArray} {a : S51} (ha : okK least ⟨p, a⟩ = true) : OkL least (insS p a l) :=
  ⟨fun k hk => by rcases ins_mem hk with e | hk; (rw [e]; exact ha); exact h.ok k hk, ins_ris h.ris⟩
theorem OkL.wo {least : Int} {l : List S58} (h : OkL least l) (p : ByteArray) : OkL least (woS l p) := ⟨fun k hk => h.ok k (wo_mem hk), wo_ris h.ris p⟩
/-- Sides may be. -/
structure OkS (s : S24) : Prop where
  a : OkL 1 s.f0
  l : OkL 0 s.f1
  r : OkL 1 s.f2
  same : ∀ p a r, getK s.f0 p = some a → getK s.f2 p = some r → r.f0 = a.f0 → alikeS r a = true
theorem check_iff (s : S24) : checkS s = 0 ↔ OkS s := by
  unfold checkS listsS
  constructor
  · intro h
    split at h
    · rename_i h1
      simp only [Bool.and_eq_true] at h1
      obtain ⟨h1, h2, h3⟩ := h1
      split at h
      · cases h
      · rename_i h4
        have a1 := (listA_none _ _).1 h1
        refine ⟨⟨a1.1, a1.2⟩, ⟨((listA_none _ _).1 h2).1, ((listA_none _ _).1 h2).2⟩, ⟨((listA_none _ _).1 h3).1, ((listA_none _ _).1 h3).2⟩, fun p a r ha hr hv => ?_⟩
        have hm := get_mem ha
        have hb : badK s.f2 ⟨p, a⟩ = false := by
          cases hb : badK s.f2 ⟨p, a⟩
          · rfl
          · exact absurd (List.any_eq_true.2 ⟨_, hm, hb⟩) h4
        unfold badK at hb
        rw [find_get, hr] at hb
        simp only [Bool.true_and, beq_iff_eq.mpr hv] at hb
        simpa using hb
    · cases h
  · intro h
    rw [if_pos (by rw [(listA_none _ _).2 ⟨h.a.ok, h.a.ris⟩, (listA_none _ _).2 ⟨h.l.ok, h.l.ris⟩, (listA_none _ _).2 ⟨h.r.ok, h.r.ris⟩]; rfl)]
    rw [if_neg]
    intro hb
    obtain ⟨k, hk, hb⟩ := List.any_eq_true.1 hb
    have ha := mem_get h.a.ris hk
    unfold badK at hb
    rw [find_get] at hb
    cases hr : getK s.f2 k.f0 with
    | none => rw [hr] at hb; cases hb
    | some r =>
      rw [hr] at hb
      simp only [Bool.true_and, Bool.and_eq_true, beq_iff_eq] at hb
      have := h.same _ _ _ ha hr hb.1
      rw [this] at hb
      exact absurd hb.2 (by decide)
end Go.Proofs.YtjllbkeobibnkaaDoor.Q

namespace Go.Proofs.YtjllbkeobibnkaaDoor.Q
open Go Go.Proofs Go.Shelf Go.RowKit Go.Lib Go.Sort Go.Proofs.YtjllbkeobibnkaaDoorK Go.Proofs.YtjllbkeobibnkaaDoorW.PrintWords Go.Proofs.YtjllbkeobibnkaaDoorW.PrintLast Go.Proofs.YtjllbkeobibnkaaDoorW.PrintMore
set_option linter.unusedSimpArgs false
set_option linter.unusedVariables false
/-! ### slices.DeleteFunc; merge.without -/
attribute [local go_sem] A51_size A51_0 A51_1 A51_g0 A51_g1 A58_size A58_0 A58_1 A58_2 A58_g0 A58_g1 A58_g2 cell_held frozen_held
attribute [local go_sem] zero51 zero58 zero65
attribute [local go_sem ↓ high] lvx_of
attribute [local go_sem] lv_sc lv24 lv33
attribute [local go_sem ↓ high] lv51 lv51s lv58 lv58a lv65 lv65a lv65l lv65r sc51 sc58 sc65 sc65a sc65l sc65r sc58a
theorem woS_none {l : List S58} {p : ByteArray} (h : ∀ x ∈ l, eqP p x = false) : woS l p = l := by
  unfold woS
  rw [List.filter_eq_self]
  intro x hx
  rw [h x hx]
  rfl
set_option maxRecDepth 100000 in
set_option maxHeartbeats 4000000 in
theorem del_any (w : World) (base : Nat) (A : Option Addr) (c b : Nat) (l : List S58) (p : ByteArray) (hR : k58.R 58 w base (fun _ => True) (.slice A l.length c) l) (hl : l.length ≤ 1048576) (hb : w.heap[b]? = some (.cells #[.string p] 9 (0, 0))) (hbase : base ≤ w.heap.size) :
    Calls Tryd.prog 63 #[.slice A l.length c, .func (.func 65) #[] #[.pointer (some ⟨b, 0, none⟩)]] w fun e w' => ∃ v, e = .returned v ∧ k58.R 58 w' base (fun _ => True) v (woS l p) ∧ Below base w w' := by
  have eg : ∀ args w, (callFunc 65 args).run Tryd.prog w = .ok (.enter 65 args) w := enters_of Tryd.func65 (by kernel_rfl) rfl
  have hbh : Go.Proofs.YtjllbkeobibnkaaDoorK.Holds w b (.cells #[.string p] 9) := ⟨hb⟩
  have HW := Aside0.mk (fun W x (h : W.heap[b]? = some (.cells #[.string p] 9 (0, 0))) => wo1_any W b p x h)
  have HI := Aside0.mk (fun W (hw : Below w.heap.size w W) => idxk_any W A c l (Kd.C_below (Kd.R_reads' hR).2.2 hw) hl 65 b eg (eqP p) (fun W' x _ hb' => wo1_any W' b p x ((hb'.block b (by have := blk_lt hb; have := hw.size; omega)).trans ((hw.block b (blk_lt hb)).trans hb))))
  have HR := Aside0.mk hR
  have sb := blk_lt hb
  have zb : Go.Proofs.YtjllbkeobibnkaaDoorK.Size base w := ⟨hbase⟩
  rcases idxK_spec (eqP p) l 0 with ⟨h1, h2⟩ | ⟨j0, hj0, h1, h2, h3⟩
  · rw [h1] at HI
    rw [woS_none h2]
    clear h1 h2 hR hb
    go_enter Tryd.func63, Tryd.ntmps63
    go_wp2_with fail
    refine (HI.out _ (bel _ _)).mono ?_
    rintro e w1 ⟨rfl, hb1⟩
    have p1 := prev_call hb1
    clear hb1
    go_wp2_with fail
    go_ret
    exact ⟨_, rfl, rowX HR.out, (inferInstance : Bel base w _).out hbase⟩
  · obtain ⟨g, rfl⟩ := row_form hR (by omega)
    rw [h1] at HI
    simp only [Nat.zero_add] at HI
    have hgb : base ≤ g := (row_open hR).2.1
    have hlc : l.length ≤ c := (row_open hR).2.2.1
    have hne : b ≠ g := by
      intro e
      obtain ⟨_, _, _, _, cur, hg, _⟩ := row_open hR
      rw [← e, hb] at hg
      injection hg with hg
      injection hg with _ hg
      exact absurd hg (by decide)
    have abg : Apart b (.row g) := apart_ne hne
    have obg : OwnB base (.row g) := own_row hgb
    have hs0 : (l.take (j0 + 1)).filter (fun k => !eqP p k) = l.take j0 := by
      rw [List.take_succ_eq_append_getElem hj0, List.filter_append, List.filter_eq_self.2 (fun x hx => by rw [h2 x hx]; rfl)]
      simp [h3]
    have hF := Aside0.mk hs0
    have hj0b : ((j0 : Int) == -1) = false := beq_eq_false_iff_ne.mpr (by omega)
    have hR2 : ∃ R, woS l p = R := ⟨_, rfl⟩
    obtain ⟨R, hWR⟩ := hR2
    rw [hWR]
    have HWR := Aside0.mk hWR
    clear h1 h2 h3 hR hb hs0 hWR
    go_enter Tryd.func63, Tryd.ntmps63
    go_wp2_with fail
    refine (HI.out _ (bel _ _)).mono ?_
    rintro e w1 ⟨rfl, hb1⟩
    have p1 := prev_call hb1
    have s1 := hb1.size
    clear hb1
    go_wp2_with fail
    go_loopw [5, 6] (fun vi vj wr => ∃ (i j : Nat) (xs : List S58), i ≤ j ∧ j ≤ l.length ∧ vi = .int .i64 (i : Int) ∧ vj = .int .i64 (j : Int) ∧ xs.length = l.length ∧ Aside0 (xs.take i = (l.take j).filter (fun k => !eqP p k)) ∧ Aside0 (xs.drop j = l.drop j) ∧ Aside0 (k58.R 58 wr base (fun _ => True) (.slice (some ⟨g, 0, none⟩) l.length c) xs) ∧ Aside0 (Go.Proofs.YtjllbkeobibnkaaDoorK.Holds wr b (.cells #[.string p] 9)) ∧ Aside0 (Below base w wr) ∧ w.heap.size ≤ wr.heap.size) (fun _ vj _ => l.length - (intOf vj).toNat)
    case atStart => exact ⟨j0, j0 + 1, l, by omega, by omega, rfl, by go_num, rfl, ⟨hF.out.symm⟩, ⟨rfl⟩, ⟨rowX HR.out⟩, ⟨inferInstance⟩, ⟨(inferInstance : Bel base w _).out hbase⟩, s1⟩
    case round =>
      obtain ⟨i, j, xs, hij, hjl, rfl, rfl, hxl, HT, HD, HX, HH, HB, hsz⟩ := hrel
      have hh := HH.out
      have bw : Bel base w wr := ⟨fun _ => HB.out⟩
      have sbr := held_lt (W := wr) (g := b)
      by_cases hlt : j < l.length
      · have hjx : j < xs.length := by omega
        obtain ⟨ad, e, x0⟩ := C58_at (by have := (Kd.R_reads' HX.out).2.2; exact this) j hjx
        obtain rfl := Option.some.inj e
        have hxj : xs[j] = l[j] := by
          have h1 := congrArg List.head? HD.out
          rw [List.head?_drop, List.head?_drop, List.getElem?_eq_getElem hjx, List.getElem?_eq_getElem hlt] at h1
          exact Option.some.inj h1
        rw [hxj, Go.Proofs.YtjllbkeobibnkaaDoorK.add_at, Nat.zero_add] at x0
        have hf : (l.take (j + 1)).filter (fun k => !eqP p k) = xs.take i ++ (if eqP p l[j] = true then [] else [l[j]]) := by
          rw [List.take_succ_eq_append_getElem hlt, List.filter_append, ← HT.out]
          cases hq : eqP p l[j] <;> simp [hq]
        have hd : xs.drop (j + 1) = l.drop (j + 1) := by
          have h1 := congrArg (List.drop 1) HD.out
          rw [List.drop_drop, List.drop_drop] at h1
          exact h1
        generalize l[j] = y at x0 hf
        have X0 := Aside0.mk x0
        have HFF := Aside0.mk hf
        have HDD := Aside0.mk hd
        have HWY := Aside0.mk (fun W h => HW.out W y h)
        clear x0 hf hd hxj e
        have a1 : Apart b (.row wr.heap.size) := apart_ne (by omega)
        have o1 : OwnB base (.row wr.heap.size) := own_row (by omega)
        cases hq : eqP p y with
        | true =>
          have hf := HFF.out
          rw [if_pos hq, List.append_nil] at hf
          have HN := Aside0.mk hf
          rw [hq] at HWY
          clear hf hq
          go_wp2_with (refine seg_load rfl 58 (.tmp 24) rfl X0.out (A58 y) rfl rfl Tryd.underlying58 rfl (by rw [L58_len]; exact info58s) ?_)
          refine (HWY.out _ held).mono ?_
          rintro e w2 ⟨rfl, hb2⟩
          have p2 := prev_call hb2
          have s2 := hb2.size
          clear hb2
          go_wp2_with fail
          go_roundw
          case rel => exact ⟨i, j + 1, xs, by omega, by omega, rfl, by go_num, hxl, ⟨HN.out.symm⟩, HDD, ⟨rowX HX.out⟩, ⟨inferInstance⟩, ⟨(inferInstance : Bel base w _).out hbase⟩, by have := siz wr w2; omega⟩
          case measure => simp [intOf]; omega
        | false =>
          have hf := HFF.out
          rw [if_neg (by rw [hq]; decide)] at hf
          have HN := Aside0.mk hf
          rw [hq] at HWY
          have hil : i < l.length := by omega
          have hix : i < xs.length := by omega
          clear hf hq
          go_wp2_with (refine seg_load rfl 58 (.tmp 24) rfl X0.out (A58 y) rfl rfl Tryd.underlying58 rfl (by rw [L58_len]; exact info58s) ?_)
          refine (HWY.out _ held).mono ?_
          rintro e w2 ⟨rfl, hb2⟩
          have p2 := prev_call hb2
          have s2 := hb2.size
          clear hb2
          go_wp2_with ((with_reducible refine gate_store (t := 58) (p := 33) rfl ?_); refine store58 rfl rfl (.tmp 33) (.tmp 32) rfl (rowX HX.out) i hil y (ad := ⟨g, 0, none⟩) rfl (by rw [Go.Proofs.YtjllbkeobibnkaaDoorK.add_at, Nat.zero_add]; rfl) rfl ?_; intro w3 hr3 hg3; have p3 := prev_row hg3; have HX3 := Aside0.mk hr3; have s3 := hg3.size; clear hr3 hg3)
          go_roundw
          case rel =>
            refine ⟨i + 1, j + 1, xs.set i y, by omega, by omega, by go_num, by go_num, by rw [List.length_set]; exact hxl, ⟨?_⟩, ⟨?_⟩, HX3, ⟨inferInstance⟩, ⟨(inferInstance : Bel base w _).out hbase⟩, by have := siz wr w2; omega⟩
            · rw [HN.out, List.take_succ_eq_append_getElem (by rw [List.length_set]; exact hix), List.take_set_of_le (Nat.le_refl _), List.getElem_set_self]
            · rw [List.drop_set_of_lt (by omega)]
              exact HDD.out
          case measure => simp [intOf]; omega
      · obtain rfl : j = l.length := by omega
        have hT := HT.out
        rw [List.take_length] at hT
        have hTW : xs.take i = R := hT.trans HWR.out
        have HTW := Aside0.mk hTW
        clear hT hTW
        by_cases hci : c = i
        · subst hci
          go_wp2_with ((with_reducible refine gate_builtin (b := .clear) (xs := #[.tmp 38]) rfl ?_); refine clear58 rfl rfl (.tmp 38) rfl HX.out c (by omega) (by rw [if_pos rfl, Nat.sub_self, show l.length - c = 0 by omega]; rfl) ?_; intro w3 hr3 hg3; have p3 := prev_row hg3; have HX3 := Aside0.mk hr3; clear hr3 hg3)
          go_ret
          exact ⟨_, rfl, by rw [← HTW.out]; exact HX3.out, (inferInstance : Bel base w _).out hbase⟩
        · have hci2 : (c = i) = False := eq_false hci
          go_wp2_with ((with_reducible refine gate_builtin (b := .clear) (xs := #[.tmp 38]) rfl ?_); refine clear58 rfl rfl (.tmp 38) rfl HX.out i (by omega) (by rw [if_neg hci, Go.Proofs.YtjllbkeobibnkaaDoorK.add_at, Nat.zero_add]; rfl) ?_; intro w3 hr3 hg3; have p3 := prev_row hg3; have HX3 := Aside0.mk hr3; clear hr3 hg3)
          go_ret
          exact ⟨_, rfl, by rw [← HTW.out]; exact HX3.out, (inferInstance : Bel base w _).out hbase⟩
set_option maxRecDepth 100000 in
set_option maxHeartbeats 1000000 in
theorem without_any (w : World) (A : Option Addr) (c : Nat) (l : List S58) (p : ByteArray) (hC : k58.C w A l.length l) (hl : l.length ≤ 1048576) :
    Calls Tryd.prog 36 #[.slice A l.length c, .string p] w fun e w' => ∃ v, e = .returned v ∧ k58.R 58 w' w.heap.size (fun _ => True) v (woS l p) ∧ Below w.heap.size w w' := by
  have HC := Aside0.mk (fun W (hb : Below w.heap.size w W) => clone_any W A c l (Kd.C_below hC hb) hl)
  have HD := Aside0.mk (fun W base A c b hR hb hbase => del_any W base A c b l p hR hl hb hbase)
  clear hC
  go_enter Tryd.func36, Tryd.ntmps36
  go_wp2_with fail
  refine (HC.out _ (bel _ _)).mono ?_
  rintro e w1 ⟨v1, rfl, hv, hb⟩
  have p1 := prev_call hb
  obtain ⟨A1, c1, rfl⟩ := Kd.R_slice hv
  have hv := Kd.R_lower hv (siz w _)
  have HV := Aside0.mk hv
  have s1 := siz w w1
  clear hb hv
  go_wp2_with fail
  refine (HD.out _ w.heap.size _ _ _ HV.out held s1).mono ?_
  rintro e w2 ⟨v2, rfl, hv, hb⟩
  have p2 := prev_above hb
  have HV2 := Aside0.mk hv
  clear hb hv
  go_wp2_with fail
  go_ret
  exact ⟨_, rfl, HV2.out, bel _ _⟩
end Go.Proofs.YtjllbkeobibnkaaDoor.Q

namespace Go.Proofs.YtjllbkeobibnkaaDoor.Q
open Go Go.Proofs Go.Shelf Go.RowKit Go.Lib Go.Sort Go.Proofs.YtjllbkeobibnkaaDoorP Go.Proofs.YtjllbkeobibnkaaDoorK Go.Proofs.YtjllbkeobibnkaaDoorW.PrintWords Go.Proofs.YtjllbkeobibnkaaDoorW.PrintLast Go.Proofs.YtjllbkeobibnkaaDoorW.PrintMore
set_option linter.unusedSimpArgs false
set_option linter.unusedVariables false
/-! ### The document's Check -/
attribute [local go_sem] A51_size A51_0 A51_1 A51_g0 A51_g1 A58_size A58_0 A58_1 A58_2 A58_g0 A58_g1 A58_g2 cell_held frozen_held
attribute [local go_sem] zero51 zero58 zero65
attribute [local go_sem ↓ high] lvx_of
attribute [local go_sem] lv_sc lv24 lv33
attribute [local go_sem ↓ high] lv51 lv51s lv58 lv58a lv65 lv65a lv65l lv65r sc51 sc58 sc65 sc65a sc65l sc65r sc58a
set_option maxRecDepth 100000 in
set_option maxHeartbeats 4000000 in
theorem rCheck_any (w : World) (s : S24) (v : Array Value) (hs : SideIn w s v) (ho : okS s = true) :
    Calls Tryd.prog 27 #[.agg v] w fun e w' => e = .returned (.int .i64 (checkS s)) ∧ Below w.heap.size w w' := by
  obtain ⟨A, c, B, d, C, e, rfl, l1, l2, l3, h1, h2, h3⟩ := hs.out
  obtain ⟨m1, m2, m3⟩ := okS_open ho
  have n1 := (shortK_open m1).1
  have n3 := (shortK_open m3).1
  have HL0 := Aside0.mk (fun W (hb : Below w.heap.size w W) => rlist_any W A c s.f0 1 (Kd.C_below h1 hb) m1)
  have HL1 := Aside0.mk (fun W (hb : Below w.heap.size w W) => rlist_any W B d s.f1 0 (Kd.C_below h2 hb) m2)
  have HL2 := Aside0.mk (fun W (hb : Below w.heap.size w W) => rlist_any W C e s.f2 1 (Kd.C_below h3 hb) m3)
  have HF := Aside0.mk (fun W p (hb : Below w.heap.size w W) => rFind_any W C e s.f2 p (Kd.C_below h3 hb) n3)
  have HC := Aside0.mk h1
  obtain ⟨V, hV⟩ : ∃ V, checkS s = V := ⟨_, rfl⟩
  rw [hV]
  unfold checkS listsS at hV
  clear hs ho l1 l2 l3 h1 h2 h3 m1 m2 m3 n3
  generalize s.f0 = la at *
  generalize s.f1 = lb at *
  generalize s.f2 = lc at *
  generalize listA 1 none la = b0 at *
  generalize listA 0 none lb = b1 at *
  generalize listA 1 none lc = b2 at *
  have HV := Aside0.mk hV
  clear hV
  go_enter Tryd.func27, Tryd.ntmps27
  go_wp2_with fail
  refine (HL0.out _ (bel _ _)).mono ?_
  rintro r1 w1 ⟨rfl, hb⟩
  have p1 := prev_call hb
  clear hb
  cases b0
  · go_wp2_with fail
    go_ret
    exact ⟨by rw [← HV.out]; rfl, bel _ _⟩
  go_wp2_with fail
  refine (HL1.out _ (bel _ _)).mono ?_
  rintro r2 w2 ⟨rfl, hb⟩
  have p2 := prev_call hb
  clear hb
  cases b1
  · go_wp2_with fail
    go_ret
    exact ⟨by rw [← HV.out]; rfl, bel _ _⟩
  go_wp2_with fail
  refine (HL2.out _ (bel _ _)).mono ?_
  rintro r3 w3 ⟨rfl, hb⟩
  have p3 := prev_call hb
  clear hb
  cases b2
  · go_wp2_with fail
    go_ret
    exact ⟨by rw [← HV.out]; rfl, bel _ _⟩
  have hV := HV.out
  simp only [Bool.and_self, if_true] at hV
  have HV := Aside0.mk hV
  clear hV
  go_wp2_with fail
  go_loopw [3] (fun i wr => ∃ j : Nat, j ≤ la.length ∧ i = .int .i64 (j : Int) ∧ Aside0 ((if (la.drop j).any (badK lc) = true then (2 : Int) else 0) = V) ∧ Aside0 (Below w3.heap.size w3 wr)) (fun i _ => la.length - (intOf i).toNat)
  case atStart => exact ⟨0, Nat.zero_le _, rfl, HV, ⟨Below.refl _ _⟩⟩
  case round =>
    obtain ⟨j, hj, rfl, HI, HB⟩ := hrel
    have pr := prev_call HB.out
    have bw : Bel w.heap.size w wr := inferInstance
    by_cases hlt : j < la.length
    · obtain ⟨ad, e0, x0⟩ := C58_at HC.out j hlt
      subst e0
      have hI := HI.out
      rw [List.drop_eq_getElem_cons hlt, List.any_cons] at hI
      generalize la[j] = x at x0 hI
      replace x0 := At_below x0 (bel w wr)
      have X0 := Aside0.mk x0
      have HFX := Aside0.mk (fun W hb => HF.out W x.f0 hb)
      unfold badK at hI
      generalize findS lc x.f0 = f at HFX hI
      obtain ⟨r, b⟩ := f
      dsimp only at HFX hI
      have HII := Aside0.mk hI
      have xk : ∀ W, Below wr.heap.size wr W → W.cell? (ad.add (j * 35)) = some (.string x.f0) := fun W hb => by
        have := (At58 (At_below X0.out hb)).1
        rwa [add_zero_] at this
      have XK := Aside0.mk xk
      clear x0 hI HI xk
      have aw : Apart w.heap.size (.row wr.heap.size) := apart_ne (by have := (inferInstance : Size (w.heap.size + 1) wr).out; omega)
      go_upto_region 6 with (fail)
      go_cut [4, 5] from 29 to 40 (fun v4 v5 wc => ∃ g : Nat, v4 = .pointer (some ⟨g, 0, none⟩) ∧ v5 = .bool b ∧ Aside0 (wr.heap.size ≤ g) ∧ Aside0 (Go.Proofs.YtjllbkeobibnkaaDoorK.Holds wc g (.cells (A51 r) 51)) ∧ Aside0 (Below wr.heap.size wr wc))
      case first =>
        go_region_held3 (fun w' => w'.cell? ⟨w.heap.size, 0, none⟩ = some (.slice (some ad) la.length c) ∧ w'.cell? ⟨w.heap.size, 2, none⟩ = some (.slice C lc.length e) ∧ w'.cell? (ad.add (j * 35)) = some (.string x.f0)) (first | exact ⟨cell_held.trans rfl, cell_held.trans rfl, XK.out _ (bel _ _)⟩)
          (first | (go_at_call 38; refine (HFX.out _ (bel _ _)).mono ?_; rintro r4 w4 ⟨rfl, hb⟩; have p4 := prev_call hb; have ow4 : OwnB wr.heap.size (.row w4.heap.size) := own_row (siz wr w4); have aw4 : Apart w.heap.size (.row w4.heap.size) := apart_ne (by have := (inferInstance : Size (w.heap.size + 1) w4).out; omega); clear hb))
        all_goals
          go_wp2_with fail
          go_meet
          case rel => exact ⟨_, rfl, rfl, ⟨by first | exact Nat.le_refl _ | exact siz _ _⟩, ⟨inferInstance⟩, ⟨bel _ _⟩⟩
      case rest =>
        obtain ⟨g, rfl, rfl, HG, HH, HB2⟩ := hcut
        have pc := prev_call HB2.out
        have hh := HH.out
        have x1 := XK.out wc (bel _ _)
        have X1 := Aside0.mk (At58 (At_below X0.out (bel wr wc)))
        cases b with
        | false =>
          have hI := HII.out
          simp only [Bool.false_and, Bool.false_or] at hI
          have HI := Aside0.mk hI
          clear hI
          go_wp2_with fail
          go_quiet (fail)
          go_wp2_with fail
          go_roundw
          case rel => exact ⟨j + 1, by omega, by go_num, HI, ⟨bel _ _⟩⟩
          case measure => simp [intOf]; omega
        | true =>
          have x2 : wc.cell? ⟨(ad.add (j * 35)).block, (ad.add (j * 35)).off + 1, none⟩ = some (.int .i64 x.f1.f0) := (congrArg wc.cell? (Addr.add_succ' (ad.add (j * 35)) 0)).symm.trans X1.out.2.1
          have hrow : ∀ W : World, W.heap = wc.heap → (lvx 51 ⟨(ad.add (j * 35)).block, (ad.add (j * 35)).off + 1, none⟩).run Tryd.prog W = .ok (.agg (A51 x.f1)) W := fun W hW => by
            refine run_loadVar_at (cs := L51 x.f1) (fun i u hi => ?_) Tryd.underlying51 rfl (by rw [L51_len]; exact info51s)
            have h1 := X1.out.2.2.2.1 i u hi
            rw [Addr.add_succ' (ad.add (j * 35)) 0] at h1
            rw [← h1]
            unfold World.cell?
            rw [hW]
          cases hv : (r.f0 == x.f1.f0) with
          | false =>
            have hI := HII.out
            simp only [hv, Bool.true_and, Bool.false_and, Bool.false_or] at hI
            have HI := Aside0.mk hI
            clear hI
            go_wp2_with fail
            go_quiet (fail)
            go_wp2_with fail
            go_roundw
            case rel => exact ⟨j + 1, by omega, by go_num, HI, ⟨bel _ _⟩⟩
            case measure => simp [intOf]; omega
          | true =>
            have hI := HII.out
            simp only [hv, Bool.true_and] at hI
            have HAL := Aside0.mk (fun W => Alike_any W r x.f1)
            generalize alikeS r x.f1 = q at HAL hI
            have HI := Aside0.mk hI
            clear hI
            go_wp2_with fail
            go_still_tail 21, (by kernel_rfl)
            refine wpStill_step (fun K hK => ?_)
            go_simp
            rw [hrow wc.drew rfl]
            go_simp
            refine hK _ ?_
            clear hK K
            refine wpStill_nil ?_
            change wpList _ _ _ _ _ wc.drew
            have p2 : Prev wc.drew wc .none := inferInstance
            generalize wc.drew = w2 at p2 ⊢
            go_wp2_with fail
            refine (HAL.out _).mono ?_
            rintro r5 w5 ⟨rfl, hb⟩
            have p5 := prev_call hb
            clear hb
            cases q with
            | false =>
              go_wp2_with fail
              go_ret
              exact ⟨by rw [← HI.out]; rfl, bel _ _⟩
            | true =>
              have hI := HI.out
              simp only [Bool.not_true, Bool.false_or] at hI
              have HI := Aside0.mk hI
              clear hI
              go_wp2_with fail
              go_roundw
              case rel => exact ⟨j + 1, by omega, by go_num, HI, ⟨bel _ _⟩⟩
              case measure => simp [intOf]; omega
    · have hI := HI.out
      rw [List.drop_of_length_le (by omega)] at hI
      have HI' := Aside0.mk hI
      clear hI HI
      go_wp2_with fail
      go_ret
      exact ⟨by rw [← HI'.out]; rfl, bel _ _⟩
end Go.Proofs.YtjllbkeobibnkaaDoor.Q

namespace Go.Proofs.YtjllbkeobibnkaaDoor.Q
open Go Go.Proofs Go.Shelf Go.RowKit Go.Lib Go.Sort Go.Proofs.YtjllbkeobibnkaaDoorP Go.Proofs.YtjllbkeobibnkaaDoorK Go.Proofs.YtjllbkeobibnkaaDoorW.PrintWords Go.Proofs.YtjllbkeobibnkaaDoorW.PrintLast Go.Proofs.YtjllbkeobibnkaaDoorW.PrintMore
set_option linter.unusedSimpArgs false
set_option linter.unusedVariables false
/-! ### merge.has, Changed; the document's changed, has, Changed -/
def hasK (s : S24) (p : ByteArray) : Bool := (atS s p).inA || ((atS s p).inL || (atS s p).inR)
def chgS (s : S24) (p : ByteArray) : Bool × Bool := if checkS s = 0 then ((atS s p).here, (atS s p).there) else (false, false)
theorem checkS_two (s : S24) : checkS s = 0 ∨ checkS s = 2 := by
  unfold checkS
  split
  · split
    · exact .inr rfl
    · exact .inl rfl
  · exact .inr rfl
attribute [local go_sem] A51_size A51_0 A51_1 A51_g0 A51_g1 A58_size A58_0 A58_1 A58_2 A58_g0 A58_g1 A58_g2 cell_held frozen_held
attribute [local go_sem] A65_size A65_0 A65_34 A65_68 A65_102 A65_103 A65_104 A65_105 A65_106 A65_g0 A65_g34 A65_g68 A65_g102 A65_g103 A65_g104 A65_g105 A65_g106 set_inA set_inL set_inR set_here set_there
attribute [local go_sem] zero51 zero58 zero65
attribute [local go_sem ↓ high] lvx_of
attribute [local go_sem] lv_sc lv24 lv33
attribute [local go_sem ↓ high] lv51 lv51s lv58 lv58a lv65 lv65a lv65l lv65r sc51 sc58 sc65 sc65a sc65l sc65r sc58a
set_option maxRecDepth 100000 in
set_option maxHeartbeats 4000000 in
theorem has_any (w : World) (s : S24) (v : Array Value) (p : ByteArray) (hs : SideIn w s v) (hl : shortS s = true) :
    Calls Tryd.prog 31 #[.agg v, .string p] w fun e w' => e = .returned (.bool (hasK s p)) ∧ Below w.heap.size w w' := by
  have HA := Aside0.mk (fun W (hb : Below w.heap.size w W) => at_any W s v p (hs.below hb) hl)
  obtain ⟨A, c, B, d, C, e, rfl, l1, l2, l3, h1, h2, h3⟩ := hs.out
  unfold hasK
  generalize atS s p = x at HA
  obtain ⟨a, l, r, ia, il, ir, he, th⟩ := x
  dsimp only
  clear hs hl l1 l2 l3 h1 h2 h3
  go_enter Tryd.func31, Tryd.ntmps31
  go_wp2_with fail
  refine (HA.out _ (bel _ _)).mono ?_
  rintro r1 w1 ⟨rfl, hb⟩
  have p1 := prev_call hb
  have o1 : OwnB w.heap.size (.row w1.heap.size) := own_row (siz w w1)
  clear hb
  cases ia <;> cases il <;> go_wp2_with fail
  all_goals
    go_ret
    exact ⟨rfl, bel _ _⟩
set_option maxRecDepth 100000 in
set_option maxHeartbeats 4000000 in
theorem Changed_any (w : World) (s : S24) (v : Array Value) (p : ByteArray) (hs : SideIn w s v) (ho : okS s = true) :
    Calls Tryd.prog 9 #[.agg v, .string p] w fun e w' => e = .returned (.tuple #[.bool (chgS s p).1, .bool (chgS s p).2]) ∧ Below w.heap.size w w' := by
  have HK := Aside0.mk (fun W (hb : Below w.heap.size w W) => Check_any W s v (hs.below hb) ho)
  have HA := Aside0.mk (fun W (hb : Below w.heap.size w W) => at_any W s v p (hs.below hb) (okS_short ho))
  obtain ⟨A, c, B, d, C, e, rfl, l1, l2, l3, h1, h2, h3⟩ := hs.out
  have h02 := checkS_two s
  unfold chgS
  generalize atS s p = x at HA
  generalize checkS s = k at HK h02
  clear hs ho l1 l2 l3 h1 h2 h3
  rcases h02 with rfl | rfl
  · rw [if_pos rfl]
    go_enter Tryd.func9, Tryd.ntmps9
    go_wp2_with fail
    refine (HK.out _ (bel _ _)).mono ?_
    rintro r1 w1 ⟨rfl, hb⟩
    have p1 := prev_call hb
    clear hb
    go_wp2_with fail
    refine (HA.out _ (bel _ _)).mono ?_
    rintro r2 w2 ⟨rfl, hb⟩
    have p2 := prev_call hb
    have o2 : OwnB w.heap.size (.row w2.heap.size) := own_row (siz w w2)
    clear hb
    go_wp2_with fail
    go_quiet (fail)
    go_wp2_with fail
    go_ret2
    exact ⟨rfl, bel _ _⟩
  · rw [if_neg (by decide)]
    go_enter Tryd.func9, Tryd.ntmps9
    go_wp2_with fail
    refine (HK.out _ (bel _ _)).mono ?_
    rintro r1 w1 ⟨rfl, hb⟩
    have p1 := prev_call hb
    clear hb
    go_wp2_with fail
    go_ret2
    exact ⟨rfl, bel _ _⟩
set_option maxRecDepth 100000 in
set_option maxHeartbeats 4000000 in
theorem rhas_any (w : World) (s : S24) (v : Array Value) (p : ByteArray) (hs : SideIn w s v) (hl : shortS s = true) :
    Calls Tryd.prog 58 #[.agg v, .string p] w fun e w' => e = .returned (.bool (hasK s p)) ∧ Below w.heap.size w w' := by
  obtain ⟨A, c, B, d, C, e, rfl, l1, l2, l3, h1, h2, h3⟩ := hs.out
  obtain ⟨m1, m2, m3⟩ := shortS_open hl
  have HF0 := Aside0.mk (fun W (hb : Below w.heap.size w W) => rFind_any W A c s.f0 p (Kd.C_below h1 hb) m1)
  have HF1 := Aside0.mk (fun W (hb : Below w.heap.size w W) => rFind_any W B d s.f1 p (Kd.C_below h2 hb) m2)
  have HF2 := Aside0.mk (fun W (hb : Below w.heap.size w W) => rFind_any W C e s.f2 p (Kd.C_below h3 hb) m3)
  unfold hasK atS
  clear hs hl l1 l2 l3 h1 h2 h3 m1 m2 m3
  generalize s.f0.length = n0 at HF0
  generalize s.f1.length = n1 at HF1
  generalize s.f2.length = n2 at HF2
  generalize findS s.f0 p = x at HF0
  generalize findS s.f1 p = y at HF1
  generalize findS s.f2 p = z at HF2
  obtain ⟨x, ia⟩ := x
  obtain ⟨y, il⟩ := y
  obtain ⟨z, ir⟩ := z
  dsimp only at HF0 HF1 HF2 ⊢
  go_enter Tryd.func58, Tryd.ntmps58
  go_wp2_with fail
  refine (HF0.out _ (bel _ _)).mono ?_
  rintro r1 w1 ⟨rfl, hb⟩
  have p1 := prev_call hb
  have s1 := (inferInstance : Size (w.heap.size + 1) w1).out
  have o1 : OwnB w.heap.size (.row w1.heap.size) := own_row (by omega)
  have a1 : Apart w.heap.size (.row w1.heap.size) := apart_ne (by omega)
  clear hb
  go_wp2_with fail
  refine (HF1.out _ (bel _ _)).mono ?_
  rintro r2 w2 ⟨rfl, hb⟩
  have p2 := prev_call hb
  have s2 := (inferInstance : Size (w1.heap.size + 1) w2).out
  have o2 : OwnB w.heap.size (.row w2.heap.size) := own_row (by omega)
  have a2 : Apart w.heap.size (.row w2.heap.size) := apart_ne (by omega)
  have b2 : Apart w1.heap.size (.row w2.heap.size) := apart_ne (by omega)
  clear hb
  go_wp2_with fail
  refine (HF2.out _ (bel _ _)).mono ?_
  rintro r3 w3 ⟨rfl, hb⟩
  have p3 := prev_call hb
  have s3 := (inferInstance : Size (w2.heap.size + 1) w3).out
  have o3 : OwnB w.heap.size (.row w3.heap.size) := own_row (by omega)
  have b3 : Apart w1.heap.size (.row w3.heap.size) := apart_ne (by omega)
  have c3 : Apart w2.heap.size (.row w3.heap.size) := apart_ne (by omega)
  clear hb s1 s2 s3
  cases ia <;> cases il <;> cases ir <;> go_wp2_with fail
  all_goals
    go_ret
    exact ⟨rfl, bel _ _⟩
set_option maxRecDepth 100000 in
set_option maxHeartbeats 4000000 in
theorem rchanged_any (w : World) (s : S24) (v : Array Value) (p : ByteArray) (hs : SideIn w s v) (hl : shortS s = true) :
    Calls Tryd.prog 28 #[.agg v, .string p] w fun e w' => e = .returned (.tuple #[.bool (atS s p).here, .bool (atS s p).there]) ∧ Below w.heap.size w w' := by
  obtain ⟨A, c, B, d, C, e, rfl, l1, l2, l3, h1, h2, h3⟩ := hs.out
  obtain ⟨m1, m2, m3⟩ := shortS_open hl
  have HF0 := Aside0.mk (fun W (hb : Below w.heap.size w W) => rFind_any W A c s.f0 p (Kd.C_below h1 hb) m1)
  have HF1 := Aside0.mk (fun W (hb : Below w.heap.size w W) => rFind_any W B d s.f1 p (Kd.C_below h2 hb) m2)
  have HF2 := Aside0.mk (fun W (hb : Below w.heap.size w W) => rFind_any W C e s.f2 p (Kd.C_below h3 hb) m3)
  unfold atS
  clear hs hl l1 l2 l3 h1 h2 h3 m1 m2 m3
  generalize s.f0.length = n0 at HF0
  generalize s.f1.length = n1 at HF1
  generalize s.f2.length = n2 at HF2
  generalize findS s.f0 p = x at HF0
  generalize findS s.f1 p = y at HF1
  generalize findS s.f2 p = z at HF2
  obtain ⟨x, ia⟩ := x
  obtain ⟨y, il⟩ := y
  obtain ⟨z, ir⟩ := z
  dsimp only at HF0 HF1 HF2 ⊢
  go_enter Tryd.func28, Tryd.ntmps28
  go_wp2_with fail
  refine (HF0.out _ (bel _ _)).mono ?_
  rintro r1 w1 ⟨rfl, hb⟩
  have p1 := prev_call hb
  have s1 := (inferInstance : Size (w.heap.size + 1) w1).out
  have o1 : OwnB w.heap.size (.row w1.heap.size) := own_row (by omega)
  have a1 : Apart w.heap.size (.row w1.heap.size) := apart_ne (by omega)
  clear hb
  go_wp2_with fail
  refine (HF1.out _ (bel _ _)).mono ?_
  rintro r2 w2 ⟨rfl, hb⟩
  have p2 := prev_call hb
  have s2 := (inferInstance : Size (w1.heap.size + 1) w2).out
  have o2 : OwnB w.heap.size (.row w2.heap.size) := own_row (by omega)
  have a2 : Apart w.heap.size (.row w2.heap.size) := apart_ne (by omega)
  have b2 : Apart w1.heap.size (.row w2.heap.size) := apart_ne (by omega)
  clear hb
  go_wp2_with fail
  refine (HF2.out _ (bel _ _)).mono ?_
  rintro r3 w3 ⟨rfl, hb⟩
  have p3 := prev_call hb
  have s3 := (inferInstance : Size (w2.heap.size + 1) w3).out
  have o3 : OwnB w.heap.size (.row w3.heap.size) := own_row (by omega)
  have b3 : Apart w1.heap.size (.row w3.heap.size) := apart_ne (by omega)
  have c3 : Apart w2.heap.size (.row w3.heap.size) := apart_ne (by omega)
  clear hb s1 s2 s3
  cases ia <;> cases il <;> cases ir <;> go_wp2_with fail
  any_goals (first
    | (refine (Alike_any _ _ _).mono ?_
       rintro r4 w4 ⟨rfl, hb⟩
       have p4 := prev_call hb
       clear hb
       go_wp2_with fail)
    | skip)
  all_goals
    go_ret2
    exact ⟨by simp [*], bel _ _⟩
set_option maxRecDepth 100000 in
set_option maxHeartbeats 4000000 in
theorem rChanged_any (w : World) (s : S24) (v : Array Value) (p : ByteArray) (hs : SideIn w s v) (ho : okS s = true) :
    Calls Tryd.prog 10 #[.agg v, .string p] w fun e w' => e = .returned (.tuple #[.bool (chgS s p).1, .bool (chgS s p).2]) ∧ Below w.heap.size w w' := by
  have HK := Aside0.mk (fun W (hb : Below w.heap.size w W) => rCheck_any W s v (hs.below hb) ho)
  have HA := Aside0.mk (fun W (hb : Below w.heap.size w W) => rchanged_any W s v p (hs.below hb) (okS_short ho))
  obtain ⟨A, c, B, d, C, e, rfl, l1, l2, l3, h1, h2, h3⟩ := hs.out
  have h02 := checkS_two s
  unfold chgS
  generalize (atS s p).here = x at HA
  generalize (atS s p).there = y at HA
  generalize checkS s = k at HK h02
  clear hs ho l1 l2 l3 h1 h2 h3
  rcases h02 with rfl | rfl
  · rw [if_pos rfl]
    go_enter Tryd.func10, Tryd.ntmps10
    go_wp2_with fail
    refine (HK.out _ (bel _ _)).mono ?_
    rintro r1 w1 ⟨rfl, hb⟩
    have p1 := prev_call hb
    clear hb
    go_wp2_with fail
    refine (HA.out _ (bel _ _)).mono ?_
    rintro r2 w2 ⟨rfl, hb⟩
    have p2 := prev_call hb
    clear hb
    go_wp2_with fail
    go_ret2
    exact ⟨rfl, bel _ _⟩
  · rw [if_neg (by decide)]
    go_enter Tryd.func10, Tryd.ntmps10
    go_wp2_with fail
    refine (HK.out _ (bel _ _)).mono ?_
    rintro r1 w1 ⟨rfl, hb⟩
    have p1 := prev_call hb
    clear hb
    go_wp2_with fail
    go_ret2
    exact ⟨rfl, bel _ _⟩
end Go.Proofs.YtjllbkeobibnkaaDoor.Q

namespace Go.Proofs.YtjllbkeobibnkaaDoor.Q
open Go Go.Proofs Go.Shelf Go.RowKit Go.Lib Go.Sort Go.Proofs.YtjllbkeobibnkaaDoorP Go.Proofs.YtjllbkeobibnkaaDoorK Go.Proofs.YtjllbkeobibnkaaDoorW.PrintWords Go.Proofs.YtjllbkeobibnkaaDoorW.PrintLast Go.Proofs.YtjllbkeobibnkaaDoorW.PrintMore
set_option linter.unusedSimpArgs false
set_option linter.unusedVariables false
/-! ### merge.ready -/
def heldS (x : S33) (now : S65) : Bool := now.inR && (now.r.f0 == x.f1)
def readyS (s : S24) (x : S33) (now : S65) : Bool :=
  if x.f0 = 1 then now.inL && (heldS x now || (!now.inR && (x.f1 == 0)))
  else if x.f0 = 2 then heldS x now && !now.inL
  else if x.f0 = 3 then heldS x now
  else if x.f0 = 4 then now.inL && !now.inR
  else if x.f0 = 5 then heldS x now && now.inL
  else if x.f0 = 6 then !now.inL && !now.inR
  else if x.f0 = 7 then heldS x now && (now.inL && (decide (kindS x.f3 = (2, 0)) && !hasK s x.f3))
  else false
attribute [local go_sem] A51_size A51_0 A51_1 A51_g0 A51_g1 A58_size A58_0 A58_1 A58_2 A58_g0 A58_g1 A58_g2 cell_held frozen_held
attribute [local go_sem] A65_size A65_0 A65_34 A65_68 A65_102 A65_103 A65_104 A65_105 A65_106 A65_g0 A65_g34 A65_g68 A65_g102 A65_g103 A65_g104 A65_g105 A65_g106 set_inA set_inL set_inR set_here set_there
attribute [local go_sem] zero51 zero58 zero65 A33
attribute [local go_sem ↓ high] lvx_of
attribute [local go_sem] lv_sc lv24 lv33
attribute [local go_sem ↓ high] lv51 lv51s lv58 lv58a lv65 lv65a lv65l lv65r sc51 sc58 sc65 sc65a sc65l sc65r sc58a
set_option maxRecDepth 100000 in
set_option maxHeartbeats 4000000 in
theorem ready_any (w : World) (s : S24) (v : Array Value) (x : S33) (now : S65) (hs : SideIn w s v) (ho : okS s = true) (hx : x.f3.size ≤ 65536) :
    Calls Tryd.prog 34 #[.agg v, .agg (A33 x), .agg (A65 now)] w fun e w' => e = .returned (.bool (readyS s x now)) ∧ Below w.heap.size w w' := by
  have HH := Aside0.mk (fun W (hb : Below w.heap.size w W) => has_any W s v x.f3 (hs.below hb) (okS_short ho))
  have HK := Aside0.mk (fun W => Kind_any W x.f3 hx)
  obtain ⟨A, c, B, d, C, e, rfl, l1, l2, l3, h1, h2, h3⟩ := hs.out
  obtain ⟨k, u, p, q⟩ := x
  obtain ⟨a, l, r, ia, il, ir, he, th⟩ := now
  dsimp only at HH HK
  unfold readyS heldS
  dsimp only
  clear hs ho hx l1 l2 l3 h1 h2 h3
  generalize s.f0.length = n0 at *
  generalize s.f1.length = n1 at *
  generalize s.f2.length = n2 at *
  generalize hasK s q = hk at *
  rcases (show k = 1 ∨ k = 2 ∨ k = 3 ∨ k = 4 ∨ k = 5 ∨ k = 6 ∨ k = 7 ∨ (k ≠ 1 ∧ k ≠ 2 ∧ k ≠ 3 ∧ k ≠ 4 ∧ k ≠ 5 ∧ k ≠ 6 ∧ k ≠ 7) by omega) with h | h | h | h | h | h | h | h
  · subst h
    cases il <;> cases ir <;> cases hv : (r.f0 == u) <;> cases h0 : (u == 0)
    all_goals
      go_enter Tryd.func34, Tryd.ntmps34
      go_wp2_with fail
      go_ret
      exact ⟨rfl, bel _ _⟩
  · subst h
    cases il <;> cases ir <;> cases hv : (r.f0 == u)
    all_goals
      go_enter Tryd.func34, Tryd.ntmps34
      go_wp2_with fail
      go_ret
      exact ⟨rfl, bel _ _⟩
  · subst h
    cases ir <;> cases hv : (r.f0 == u)
    all_goals
      go_enter Tryd.func34, Tryd.ntmps34
      go_wp2_with fail
      go_ret
      exact ⟨rfl, bel _ _⟩
  · subst h
    cases il <;> cases ir <;> cases hv : (r.f0 == u)
    all_goals
      go_enter Tryd.func34, Tryd.ntmps34
      go_wp2_with fail
      go_ret
      exact ⟨rfl, bel _ _⟩
  · subst h
    cases il <;> cases ir <;> cases hv : (r.f0 == u)
    all_goals
      go_enter Tryd.func34, Tryd.ntmps34
      go_wp2_with fail
      go_ret
      exact ⟨rfl, bel _ _⟩
  · subst h
    cases il <;> cases ir <;> cases hv : (r.f0 == u)
    all_goals
      go_enter Tryd.func34, Tryd.ntmps34
      go_wp2_with fail
      go_ret
      exact ⟨rfl, bel _ _⟩
  · subst h
    generalize kindS q = kq at HK ⊢
    obtain ⟨k1, k2⟩ := kq
    dsimp only at HK
    cases il <;> cases ir <;> cases hv : (r.f0 == u)
    all_goals
      go_enter Tryd.func34, Tryd.ntmps34
      go_wp2_with fail
      refine (HK.out _).mono ?_
      rintro r1 w1 ⟨rfl, hb⟩
      have p1 := prev_call hb
      clear hb
      by_cases hk2 : k2 = 0
      · subst hk2
        by_cases hk1 : k1 = 2
        · subst hk1
          go_wp2_with fail
          all_goals first
            | (go_ret
               exact ⟨rfl, bel _ _⟩)
            | (refine (HH.out _ (bel _ _)).mono ?_
               rintro r2 w2 ⟨rfl, hb⟩
               have p2 := prev_call hb
               clear hb
               go_wp2_with fail
               go_ret
               exact ⟨by simp, bel _ _⟩)
        · have hk3 : (k1 == 2) = false := beq_eq_false_iff_ne.mpr hk1
          go_wp2_with fail
          all_goals
            go_ret
            exact ⟨by first | rfl | simp [hk1], bel _ _⟩
      · have hk3 : (k2 == 0) = false := beq_eq_false_iff_ne.mpr hk2
        go_wp2_with fail
        all_goals
          go_ret
          exact ⟨by first | rfl | simp [hk2], bel _ _⟩
  · obtain ⟨h1, h2, h3, h4, h5, h6, h7⟩ := h
    rw [if_neg h1, if_neg h2, if_neg h3, if_neg h4, if_neg h5, if_neg h6, if_neg h7]
    have b1 : (k == 1) = false := beq_eq_false_iff_ne.mpr h1
    have b2 : (k == 2) = false := beq_eq_false_iff_ne.mpr h2
    have b3 : (k == 3) = false := beq_eq_false_iff_ne.mpr h3
    have b4 : (k == 4) = false := beq_eq_false_iff_ne.mpr h4
    have b5 : (k == 5) = false := beq_eq_false_iff_ne.mpr h5
    have b6 : (k == 6) = false := beq_eq_false_iff_ne.mpr h6
    have b7 : (k == 7) = false := beq_eq_false_iff_ne.mpr h7
    clear h1 h2 h3 h4 h5 h6 h7
    cases ir <;> cases hv : (r.f0 == u)
    all_goals
      go_enter Tryd.func34, Tryd.ntmps34
      go_wp2_with fail
      go_ret
      exact ⟨rfl, bel _ _⟩
end Go.Proofs.YtjllbkeobibnkaaDoor.Q

namespace Go.Proofs.YtjllbkeobibnkaaDoor.Q
open Go Go.Proofs Go.Shelf Go.RowKit Go.Proofs.YtjllbkeobibnkaaDoorK Go.Proofs.YtjllbkeobibnkaaDoorW.PrintWords Go.Proofs.YtjllbkeobibnkaaDoorW.PrintLast Go.Proofs.YtjllbkeobibnkaaDoorW.PrintMore
set_option linter.unusedSimpArgs false
set_option linter.unusedVariables false
/-! ### The law's Few -/
theorem min2_mnF (k k' : IntKind) (x y : Int) : Builtin.min2 (.int k x) (.int k' y) = pure (.int k (mn x y)) := by
  rw [min2_int]
  unfold mn
  rfl
attribute [local go_sem] min2_mnF min_two laid58
def cutB (s : ByteArray) : ByteArray := s.extract 0 (mn (s.size : Int) 110).toNat
def cutK (k : S58) : S58 := { k with f0 := cutB k.f0 }
def fewL (l : List S58) : List S58 := (l.take 20).map cutK
theorem mn_ok (s : ByteArray) : 0 ≤ mn (s.size : Int) 110 ∧ mn (s.size : Int) 110 ≤ (s.size : Int) := by unfold mn; split <;> omega
attribute [local go_sem] A51_size A51_0 A51_1 A51_g0 A51_g1 A58_size A58_0 A58_1 A58_2 A58_g0 A58_g1 A58_g2 cell_held frozen_held
attribute [local go_sem] zero51 zero58 zero65
attribute [local go_sem ↓ high] lvx_of
attribute [local go_sem] lv_sc lv24 lv33
attribute [local go_sem ↓ high] lv51 lv51s lv58 lv58a lv65 lv65a lv65l lv65r sc51 sc58 sc65 sc65a sc65l sc65r sc58a
set_option maxRecDepth 100000 in
set_option maxHeartbeats 4000000 in
theorem few1_any (w : World) (A : Option Addr) (c : Nat) (l : List S58) (hC : k58.C w A l.length l) :
    Calls Tryd.prog 24 #[.slice A l.length c] w fun e w' => ∃ v, e = .returned v ∧ k58.R 58 w' w.heap.size (fun _ => True) v (fewL l) ∧ Below w.heap.size w w' := by
  have HC := Aside0.mk hC
  have hl := hC.2.1
  clear hC
  go_enter Tryd.func24, Tryd.ntmps24
  go_wp2_with fail
  go_loopw [3, 4] (fun u i wr => ∃ j : Nat, j ≤ l.length ∧ j ≤ 20 ∧ i = .int .i64 (j : Int) ∧ Aside0 (Below w.heap.size w wr) ∧ Aside0 (k58.R 58 wr w.heap.size (fun _ => True) u ((l.take j).map cutK))) (fun _ i _ => 20 - (intOf i).toNat)
  case atStart => exact ⟨0, Nat.zero_le _, Nat.zero_le _, rfl, ⟨bel _ _⟩, ⟨Kd.R_nil _ _ _ _ _⟩⟩
  case round =>
    obtain ⟨j, hj, hj2, rfl, HB, HV⟩ := hrel
    have bw : Bel w.heap.size w wr := ⟨fun _ => HB.out⟩
    have hlv : ((l.take j).map cutK).length = j := by rw [List.length_map, List.length_take]; omega
    obtain ⟨Au, cu, hu⟩ := Kd.R_slice HV.out
    rw [hlv] at hu
    subst hu
    have ho4 : OwnB w.heap.size (.row wr.heap.size) := own_row HB.out.size
    by_cases hlt : j < l.length
    · by_cases h20 : j < 20
      · obtain ⟨ad, e, x0⟩ := C58_at HC.out j hlt
        subst e
        have ht : l.take (j + 1) = l.take j ++ [l[j]] := List.take_succ_eq_append_getElem hlt
        generalize l[j] = x at x0 ht
        have HX := Aside0.mk (At_below x0 HB.out)
        have HT := Aside0.mk ht
        obtain ⟨k1, k2⟩ := mn_ok x.f0
        clear x0 ht
        go_wp2_with (first
          | (refine seg_load rfl 58 (.tmp 18) rfl HX.out (A58 x) rfl rfl Tryd.underlying58 rfl (by rw [L58_len]; exact info58s) ?_)
          | ((with_reducible refine gate_builtin (b := .append) (xs := #[.tmp 28, .tmp 30]) rfl ?_); go_loud (at_builtin; refine app58 (w0 := w) w.heap.size rfl (.tmp 28) (.tmp 30) rfl (.slice Au j cu) ((l.take j).map cutK) (cutK x) rfl ?aX ?aO ?aB ?aS ?aL ?_; (case aX => (simp only [World.size_setCell, size_setRow, World.size_alloc]; rfl)); (case aO => exact rowB HV.out (bel wr _)); (case aB => exact bel w _); (case aS => exact siz w _); (case aL => rw [hlv]; omega); intro v1 w6 h6 hb6 hg6 hat6; have p6 := prev_above hb6; have HB6 := Aside0.mk hb6; have HV6 := Aside0.mk h6; clear hb6 h6 hg6 hat6)))
        go_roundw
        case rel => exact ⟨j + 1, by omega, by omega, by go_num, HB6, ⟨by rw [HT.out, List.map_append]; exact HV6.out⟩⟩
        case measure => simp [intOf]; omega
      · have hv := HV.out
        obtain rfl : j = 20 := by omega
        have HV' := Aside0.mk hv
        clear hv HV
        go_wp2_with fail
        go_ret
        exact ⟨_, rfl, HV'.out, bel _ _⟩
    · have hv := HV.out
      have he : fewL l = (l.take j).map cutK := by unfold fewL; rw [List.take_of_length_le (by omega), List.take_of_length_le (by omega)]
      rw [← he] at hv
      have HV' := Aside0.mk hv
      clear hv HV he
      go_wp2_with fail
      go_ret
      exact ⟨_, rfl, HV'.out, bel _ _⟩
end Go.Proofs.YtjllbkeobibnkaaDoor.Q

namespace Go.Proofs.YtjllbkeobibnkaaDoor.Q
open Go Go.Proofs Go.Shelf Go.RowKit Go.Proofs.YtjllbkeobibnkaaDoorK Go.Proofs.YtjllbkeobibnkaaDoorW.PrintWords Go.Proofs.YtjllbkeobibnkaaDoorW.PrintLast Go.Proofs.YtjllbkeobibnkaaDoorW.PrintMore
set_option linter.unusedSimpArgs false
set_option linter.unusedVariables false
/-! ### The law's Few, of sides -/
def fewS (s : S24) : S24 := ⟨fewL s.f0, fewL s.f1, fewL s.f2⟩
/-- A list as it comes out. -/
theorem C_ofR {w : World} {base : Nat} {v : Value} {l : List S58} (h : k58.R 58 w base (fun _ => True) v l) : ∃ A c, v = .slice A l.length c ∧ l.length ≤ c ∧ k58.C w A l.length l := by
  obtain ⟨A, c, e⟩ := Kd.R_slice h
  subst e
  obtain ⟨_, h2, h3⟩ := Kd.R_reads' h
  exact ⟨A, c, rfl, h2, h3⟩
theorem SideIn.ofR {w : World} {b0 b1 b2 : Nat} {v0 v1 v2 : Value} {s : S24} (h0 : k58.R 58 w b0 (fun _ => True) v0 s.f0) (h1 : k58.R 58 w b1 (fun _ => True) v1 s.f1) (h2 : k58.R 58 w b2 (fun _ => True) v2 s.f2) : SideIn w s #[v0, v1, v2] := by
  obtain ⟨A, c, rfl, c1, c2⟩ := C_ofR h0
  obtain ⟨B, d, rfl, d1, d2⟩ := C_ofR h1
  obtain ⟨C, e, rfl, e1, e2⟩ := C_ofR h2
  exact ⟨⟨A, c, B, d, C, e, rfl, c1, d1, e1, c2, d2, e2⟩⟩
instance : Go.Proofs.YtjllbkeobibnkaaDoorK.NotIn 41 (58 :: k58.E) := ⟨by decide⟩
instance : Go.Proofs.YtjllbkeobibnkaaDoorK.NotIn 33 (58 :: k58.E) := ⟨by decide⟩
instance : Go.Proofs.YtjllbkeobibnkaaDoorK.NotIn 24 (58 :: k58.E) := ⟨by decide⟩
/-- Sides that a call has made. -/
structure SideR (w : World) (base : Nat) (s : S24) (v : Array Value) : Prop where
  out : ∃ v0 v1 v2, v = #[v0, v1, v2] ∧ k58.R 58 w base (fun _ => True) v0 s.f0 ∧ k58.R 58 w base (fun _ => True) v1 s.f1 ∧ k58.R 58 w base (fun _ => True) v2 s.f2
theorem SideR.side {w : World} {base : Nat} {s : S24} {v : Array Value} (h : SideR w base s v) : SideIn w s v := by
  obtain ⟨v0, v1, v2, rfl, h0, h1, h2⟩ := h.out
  exact SideIn.ofR h0 h1 h2
theorem SideR.x {w w' : World} {base : Nat} {s : S24} {v : Array Value} (h : SideR w base s v) [r : RowsX (58 :: k58.E) w w'] : SideR w' base s v := by
  obtain ⟨v0, v1, v2, rfl, h0, h1, h2⟩ := h.out
  exact ⟨⟨v0, v1, v2, rfl, rowX h0, rowX h1, rowX h2⟩⟩
attribute [local go_sem] cell_held frozen_held
attribute [local go_sem ↓ high] lvx_of
attribute [local go_sem] lv_sc lv24 lv33
theorem info24 : (Tryd.prog.info? 24).map (·.size) = some 3 := by kernel_rfl
--REGWORDS few8
def few8.T2 : Bool × List (List Nat × List Nat) := (true, [([], []), ([], []), ([1], [1]), ([0, 2], [0, 2]), ([], []), ([], []), ([5], [5]), ([4, 6, 3], [4, 6]), ([], []), ([], []), ([9], [9]), ([8, 10, 7], [8, 10]), ([3, 7, 11], [3, 7, 11]), ([12, 11, 0, 1, 2, 3, 4, 5, 6, 7, 8, 9, 10, 11, 12], [12])])
def few8.B2 : List Nat := [0, 0, 2, 7, 0, 0, 32, 127, 0, 0, 512, 2047, 4095, 8191]
theorem few8.tab2 : rtab .any (opsOf Tryd.f8 2) = few8.T2 := by kernel_rfl
theorem few8.bits2 : waitsOk few8.T2.2 few8.B2 = true := by kernel_rfl
--END
set_option maxRecDepth 100000 in
set_option maxHeartbeats 4000000 in
theorem Few_any (w : World) (s : S24) (v : Array Value) (hs : SideIn w s v) :
    Calls Tryd.prog 8 #[.agg v] w fun e w' => ∃ v', e = .returned (.agg v') ∧ SideR w' w.heap.size (fewS s) v' ∧ Below w.heap.size w w' := by
  obtain ⟨A, c, B, d, C, e, rfl, l1, l2, l3, h1, h2, h3⟩ := hs.out
  have eg : ∀ args w, (callFunc 24 args).run Tryd.prog w = .ok (.enter 24 args) w := enters_of Tryd.func24 (by kernel_rfl) rfl
  have HF0 := Aside0.mk (fun W (hb : Below w.heap.size w W) => few1_any W A c s.f0 (Kd.C_below h1 hb))
  have HF1 := Aside0.mk (fun W (hb : Below w.heap.size w W) => few1_any W B d s.f1 (Kd.C_below h2 hb))
  have HF2 := Aside0.mk (fun W (hb : Below w.heap.size w W) => few1_any W C e s.f2 (Kd.C_below h3 hb))
  clear hs l1 l2 l3 h1 h2 h3
  generalize s.f0.length = n0 at HF0 ⊢
  generalize s.f1.length = n1 at HF1 ⊢
  generalize s.f2.length = n2 at HF2 ⊢
  go_enter Tryd.func8, Tryd.ntmps8
  go_wp2_with fail
  --REG few8
  refine start_ (n := 14) (S := fun w' => w'.heap[w.heap.size]? = some (.cells #[.slice A n0 c, .slice B n1 d, .slice C n2 e] 24 (0, 0))) (ds := [13]) #[false, false, false, false, false, false, false, false, false, false, false, false, false, false] (by kernel_rfl) rfl rfl held (fun hHeld => ?_); refine with_tabW few8.tab2 few8.bits2 (fun HT_ HW_ => ?_)
  refine pure_ (i := 0) (N := some 4) (v := ?_) (a' := ?_) #[true, false, false, false, false, false, false, false, false, false, false, false, false, false] rfl rfl (any_of HT_.out (by kernel_rfl)) (fun _ _ _ h => h) (Or.inl ⟨by rfl, ?_⟩) ?_ ?_
  rotate_left
  · intro w'
    go_simp
    with_reducible rfl
  rotate_left
  · simp only [Act.put, List.setIfInBounds_toArray, List.set_cons_zero, List.set_cons_succ, i64_w, i32_w]
    rfl
  refine pure_ (i := 1) (N := some 5) (v := ?_) (a' := ?_) #[true, true, false, false, false, false, false, false, false, false, false, false, false, false] rfl rfl (any_of HT_.out (by kernel_rfl)) (fun _ _ _ h => h) (Or.inl ⟨by rfl, ?_⟩) ?_ ?_
  rotate_left
  · intro w'
    go_simp
    with_reducible rfl
  rotate_left
  · simp only [Act.put, List.setIfInBounds_toArray, List.set_cons_zero, List.set_cons_succ, i64_w, i32_w]
    rfl
  refine pure_ (i := 4) (N := some 8) (v := ?_) (a' := ?_) #[true, true, false, false, true, false, false, false, false, false, false, false, false, false] rfl rfl (any_of HT_.out (by kernel_rfl)) (fun _ _ _ h => h) (Or.inl ⟨by rfl, ?_⟩) ?_ ?_
  rotate_left
  · intro w'
    go_simp
    with_reducible rfl
  rotate_left
  · simp only [Act.put, List.setIfInBounds_toArray, List.set_cons_zero, List.set_cons_succ, i64_w, i32_w]
    rfl
  refine pure_ (i := 5) (N := some 9) (v := ?_) (a' := ?_) #[true, true, false, false, true, true, false, false, false, false, false, false, false, false] rfl rfl (any_of HT_.out (by kernel_rfl)) (fun _ _ _ h => h) (Or.inl ⟨by rfl, ?_⟩) ?_ ?_
  rotate_left
  · intro w'
    go_simp
    with_reducible rfl
  rotate_left
  · simp only [Act.put, List.setIfInBounds_toArray, List.set_cons_zero, List.set_cons_succ, i64_w, i32_w]
    rfl
  refine pure_ (i := 8) (N := some 12) (v := ?_) (a' := ?_) #[true, true, false, false, true, true, false, false, true, false, false, false, false, false] rfl rfl (any_of HT_.out (by kernel_rfl)) (fun _ _ _ h => h) (Or.inl ⟨by rfl, ?_⟩) ?_ ?_
  rotate_left
  · intro w'
    go_simp
    with_reducible rfl
  rotate_left
  · simp only [Act.put, List.setIfInBounds_toArray, List.set_cons_zero, List.set_cons_succ, i64_w, i32_w]
    rfl
  refine pure_ (i := 9) (N := some 13) (v := ?_) (a' := ?_) #[true, true, false, false, true, true, false, false, true, true, false, false, false, false] rfl rfl (any_of HT_.out (by kernel_rfl)) (fun _ _ _ h => h) (Or.inl ⟨by rfl, ?_⟩) ?_ ?_
  rotate_left
  · intro w'
    go_simp
    with_reducible rfl
  rotate_left
  · simp only [Act.put, List.setIfInBounds_toArray, List.set_cons_zero, List.set_cons_succ, i64_w, i32_w]
    rfl
  refine take_ (i := 2) (N := some 6) (v := ?_) (a' := ?_) #[true, true, true, false, true, true, false, false, true, true, false, false, false, false] rfl rfl (take_ofW HT_.out HW_.out (by kernel_rfl)) (fun _ _ _ h => h) (Or.inl ⟨by rfl, ?_⟩) hHeld ?_ ?_
  rotate_left
  · rintro w' s0
    have i0 : Go.Proofs.YtjllbkeobibnkaaDoorK.Holds w' w.heap.size (.cells #[.slice A n0 c, .slice B n1 d, .slice C n2 e] 24) := ⟨s0⟩
    go_simp
    with_reducible rfl
  rotate_left
  · simp only [Act.put, List.setIfInBounds_toArray, List.set_cons_zero, List.set_cons_succ, i64_w, i32_w]
    rfl
  refine take_ (i := 6) (N := some 10) (v := ?_) (a' := ?_) #[true, true, true, false, true, true, true, false, true, true, false, false, false, false] rfl rfl (take_ofW HT_.out HW_.out (by kernel_rfl)) (fun _ _ _ h => h) (Or.inl ⟨by rfl, ?_⟩) hHeld ?_ ?_
  rotate_left
  · rintro w' s0
    have i0 : Go.Proofs.YtjllbkeobibnkaaDoorK.Holds w' w.heap.size (.cells #[.slice A n0 c, .slice B n1 d, .slice C n2 e] 24) := ⟨s0⟩
    go_simp
    with_reducible rfl
  rotate_left
  · simp only [Act.put, List.setIfInBounds_toArray, List.set_cons_zero, List.set_cons_succ, i64_w, i32_w]
    rfl
  refine take_ (i := 10) (N := some 14) (v := ?_) (a' := ?_) #[true, true, true, false, true, true, true, false, true, true, true, false, false, false] rfl rfl (take_ofW HT_.out HW_.out (by kernel_rfl)) (fun _ _ _ h => h) (Or.inl ⟨by rfl, ?_⟩) hHeld ?_ ?_
  rotate_left
  · rintro w' s0
    have i0 : Go.Proofs.YtjllbkeobibnkaaDoorK.Holds w' w.heap.size (.cells #[.slice A n0 c, .slice B n1 d, .slice C n2 e] 24) := ⟨s0⟩
    go_simp
    with_reducible rfl
  rotate_left
  · simp only [Act.put, List.setIfInBounds_toArray, List.set_cons_zero, List.set_cons_succ, i64_w, i32_w]
    rfl
  refine one_ (i := 3) (N := some 7) #[true, true, true, true, true, true, true, false, true, true, true, false, false, false] rfl rfl (one_of HT_.out (by kernel_rfl)) (by decide) (fun K hK => ?_)
  refine call_ 24 #[.slice A n0 c] (by rfl) rfl (by go_simp) ?_
  refine (HF0.out _ (bel _ _)).mono ?_
  rintro e1 w1 ⟨v1, rfl, hv, hb⟩
  have p1 := prev_call hb
  obtain ⟨X1, k1, rfl⟩ := Kd.R_slice hv
  have HV1 := Aside0.mk hv
  clear hb hv
  refine ⟨_, rfl, ?_⟩
  refine hK.out _ _ held (fun hHeld => ?_)
  clear hK K
  refine norm_ (a' := ?_) ?_ ?_
  rotate_left
  · show Act.put _ (some 7) _ = _
    simp only [Act.put, List.setIfInBounds_toArray, List.set_cons_zero, List.set_cons_succ, i64_w, i32_w]
    rfl
  refine one_ (i := 7) (N := some 11) #[true, true, true, true, true, true, true, true, true, true, true, false, false, false] rfl rfl (one_of HT_.out (by kernel_rfl)) (by decide) (fun K hK => ?_)
  refine call_ 24 #[.slice B n1 d] (by rfl) rfl (by go_simp) ?_
  refine (HF1.out _ (bel _ _)).mono ?_
  rintro e2 w2 ⟨v2, rfl, hv, hb⟩
  have p2 := prev_call hb
  obtain ⟨X2, k2, rfl⟩ := Kd.R_slice hv
  have HV2 := Aside0.mk hv
  clear hb hv
  refine ⟨_, rfl, ?_⟩
  refine hK.out _ _ held (fun hHeld => ?_)
  clear hK K
  refine norm_ (a' := ?_) ?_ ?_
  rotate_left
  · show Act.put _ (some 11) _ = _
    simp only [Act.put, List.setIfInBounds_toArray, List.set_cons_zero, List.set_cons_succ, i64_w, i32_w]
    rfl
  refine one_ (i := 11) (N := some 15) #[true, true, true, true, true, true, true, true, true, true, true, true, false, false] rfl rfl (one_of HT_.out (by kernel_rfl)) (by decide) (fun K hK => ?_)
  refine call_ 24 #[.slice C n2 e] (by rfl) rfl (by go_simp) ?_
  refine (HF2.out _ (bel _ _)).mono ?_
  rintro e3 w3 ⟨v3, rfl, hv, hb⟩
  have p3 := prev_call hb
  obtain ⟨X3, k3, rfl⟩ := Kd.R_slice hv
  have HV3 := Aside0.mk hv
  clear hb hv
  refine ⟨_, rfl, ?_⟩
  refine hK.out _ _ held (fun hHeld => ?_)
  clear hK K
  refine norm_ (a' := ?_) ?_ ?_
  rotate_left
  · show Act.put _ (some 15) _ = _
    simp only [Act.put, List.setIfInBounds_toArray, List.set_cons_zero, List.set_cons_succ, i64_w, i32_w]
    rfl
  refine pure_ (i := 12) (N := some 16) (v := ?_) (a' := ?_) #[true, true, true, true, true, true, true, true, true, true, true, true, true, false] rfl rfl (any_of HT_.out (by kernel_rfl)) (fun _ _ _ h => h) (Or.inl ⟨by rfl, ?_⟩) ?_ ?_
  rotate_left
  · intro w'
    go_simp
    with_reducible rfl
  rotate_left
  · simp only [Act.put, List.setIfInBounds_toArray, List.set_cons_zero, List.set_cons_succ, i64_w, i32_w]
    rfl
  refine last_ (i := 13) (N := none) #[true, true, true, true, true, true, true, true, true, true, true, true, true, true] rfl rfl (one_of HT_.out (by kernel_rfl)) (by decide) (fun K hK => ?_)
  refine box_skip (by rfl) rfl 24 (.tmp 2) (.tmp 16) rfl held #[.slice X1 (fewL s.f0).length k1, .slice X2 (fewL s.f1).length k2, .slice X3 (fewL s.f2).length k3] rfl rfl info24 (by rfl) (by rfl) ?_
  intro w4 hx4 hg4
  have p4 := prev_row hg4
  have HZ := Aside0.mk hx4
  have n4 : NoRow (58 :: k58.E) w3 (.row (w.heap.size + 1)) := noRow_row held (by decide)
  clear hx4 hg4
  refine hK.out _ _ ?_
  clear hK K
  refine done_ (done_of HT_.out (by kernel_rfl)) ?_
  --END
  go_wp2_with fail
  refine bodyPost_ret (results_cell_row rfl _ _ _ _ _ _ _ rfl HZ.out Tryd.underlying24 rfl (by exact info24)) rfl ?_
  exact ⟨_, rfl, ⟨⟨_, _, _, rfl, Kd.R_lower (rowK HV1.out) (siz w _), Kd.R_lower (rowK HV2.out) (siz w _), Kd.R_lower (rowK HV3.out) (siz w _)⟩⟩, bel _ _⟩
end Go.Proofs.YtjllbkeobibnkaaDoor.Q

namespace Go.Proofs.YtjllbkeobibnkaaDoor.Q
open Go Go.Proofs Go.Shelf Go.RowKit Go.Lib Go.Sort Go.Proofs.YtjllbkeobibnkaaDoorP Go.Proofs.YtjllbkeobibnkaaDoorK Go.Proofs.YtjllbkeobibnkaaDoorW.PrintWords Go.Proofs.YtjllbkeobibnkaaDoorW.PrintLast Go.Proofs.YtjllbkeobibnkaaDoorW.PrintMore
set_option linter.unusedSimpArgs false
set_option linter.unusedVariables false
/-! ### merge.paths -/
def newK (p : ByteArray) : S58 := ⟨p, z51⟩
/-- Sides of few paths. -/
def fewK (l : List S58) : Bool := decide (l.length ≤ 1000) && l.all fun k => decide (k.f0.size ≤ 32000)
theorem fewK_open {l : List S58} (h : fewK l = true) : l.length ≤ 1000 ∧ ∀ k ∈ l, k.f0.size ≤ 32000 := by
  unfold fewK at h
  simpa using h
theorem fewK_short {l : List S58} (h : fewK l = true) : shortK l = true := by
  obtain ⟨h1, h2⟩ := fewK_open h
  unfold shortK
  rw [decide_eq_true (by omega : l.length ≤ 1048576), Bool.true_and, List.all_eq_true]
  intro k hk
  have := h2 k hk
  exact decide_eq_true (by omega)
def tinyS (s : S24) : Bool := fewK s.f0 && (fewK s.f1 && fewK s.f2)
theorem tinyS_open {s : S24} (h : tinyS s = true) : fewK s.f0 = true ∧ fewK s.f1 = true ∧ fewK s.f2 = true := by
  unfold tinyS at h
  simpa using h
theorem tinyS_ok {s : S24} (h : tinyS s = true) : okS s = true := by
  obtain ⟨h1, h2, h3⟩ := tinyS_open h
  unfold okS
  rw [fewK_short h1, fewK_short h2, fewK_short h3]
  rfl
def pathsS (s : S24) : List ByteArray := mergeL (mergeL (pathsK s.f0) (pathsK s.f1)) (pathsK s.f2)
theorem mergeL_mem (x : List ByteArray) : ∀ y p, p ∈ mergeL x y → p ∈ x ∨ p ∈ y := by
  induction x with
  | nil => intro y p h; exact .inr h
  | cons a x ih =>
    intro y
    induction y with
    | nil =>
      intro p h
      rw [mergeL_end] at h
      rcases List.mem_cons.1 h with e | h
      · exact .inl (e ▸ List.mem_cons_self)
      · rcases ih [] p h with h | h
        · exact .inl (List.mem_cons_of_mem _ h)
        · exact .inr h
    | cons b y ih2 =>
      intro p h
      rw [mergeL_cons] at h
      split at h
      · rcases List.mem_cons.1 h with e | h
        · exact .inl (e ▸ List.mem_cons_self)
        · rcases ih _ p h with h | h
          · exact .inl (List.mem_cons_of_mem _ h)
          · exact .inr h
      · split at h
        · rcases List.mem_cons.1 h with e | h
          · exact .inr (e ▸ List.mem_cons_self)
          · rcases ih2 p h with h | h
            · exact .inl h
            · exact .inr (List.mem_cons_of_mem _ h)
        · rcases List.mem_cons.1 h with e | h
          · exact .inl (e ▸ List.mem_cons_self)
          · rcases ih _ p h with h | h
            · exact .inl (List.mem_cons_of_mem _ h)
            · exact .inr (List.mem_cons_of_mem _ h)
theorem pathsK_new (l : List ByteArray) : pathsK (l.map newK) = l := by
  unfold pathsK
  rw [List.map_map]
  exact List.map_id' l
theorem C_str' {w : World} {A : Option Addr} {l : List ByteArray} (h : Kd.C Kd.string w A l.length l) (j : Nat) (hj : j < l.length) : ∃ ad, A = some ad ∧ w.cell? (ad.add j) = some (.string l[j]) := by
  obtain ⟨ad, e, hc⟩ := h.2.2 (by omega)
  obtain ⟨c, h1, h2, h3⟩ := hc j l[j] (List.getElem?_eq_getElem hj)
  refine ⟨ad, e, ?_⟩
  have h2' : c = [Value.string l[j]] := h2
  have h4 := h3 0 (Value.string l[j]) (by rw [h2']; rfl)
  have h5 : j * (Kd.string).sz + 0 = j := by show j * 1 + 0 = j; omega
  rwa [h5] at h4
attribute [local go_sem] A51_size A51_0 A51_1 A51_g0 A51_g1 A58_size A58_0 A58_1 A58_2 A58_g0 A58_g1 A58_g2 cell_held frozen_held
attribute [local go_sem] zero51 zero58 zero65 set58 laid58
attribute [local go_sem ↓ high] lvx_of
attribute [local go_sem] lv_sc lv24 lv33
attribute [local go_sem ↓ high] lv51 lv51s lv58 lv58a lv65 lv65a lv65l lv65r sc51 sc58 sc65 sc65a sc65l sc65r sc58a
set_option maxRecDepth 100000 in
set_option maxHeartbeats 4000000 in
theorem paths_any (w : World) (s : S24) (v : Array Value) (hs : SideIn w s v) (ht : tinyS s = true) :
    Calls Tryd.prog 43 #[.agg v] w fun e w' => ∃ v, e = .returned v ∧ Kd.string.R 9 w' w.heap.size (fun _ => True) v (pathsS s) ∧ Below w.heap.size w w' := by
  obtain ⟨A, c, B, d, C, e, rfl, l1, l2, l3, h1, h2, h3⟩ := hs.out
  obtain ⟨t1, t2, t3⟩ := tinyS_open ht
  have HM1 := Aside0.mk (fun W (hb : Below w.heap.size w W) => merge_any W A c s.f0 B d s.f1 (Kd.C_below h1 hb) (fewK_short t1) l1 (Kd.C_below h2 hb) (fewK_short t2) l2)
  have hl1 : (mergeL (pathsK s.f0) (pathsK s.f1)).length ≤ 2000 := by
    have := mergeL_len (pathsK s.f0) (pathsK s.f1)
    have a1 := (fewK_open t1).1
    have a2 := (fewK_open t2).1
    unfold pathsK at this ⊢
    rw [List.length_map, List.length_map] at this
    omega
  have hm1 : ∀ p ∈ mergeL (pathsK s.f0) (pathsK s.f1), p.size ≤ 32000 := fun p hp => by
    rcases mergeL_mem _ _ p hp with h | h
    · obtain ⟨k, hk, rfl⟩ := List.mem_map.1 h
      exact (fewK_open t1).2 k hk
    · obtain ⟨k, hk, rfl⟩ := List.mem_map.1 h
      exact (fewK_open t2).2 k hk
  obtain ⟨R, hR⟩ : ∃ R, pathsS s = R := ⟨_, rfl⟩
  rw [hR]
  unfold pathsS at hR
  generalize mergeL (pathsK s.f0) (pathsK s.f1) = l at HM1 hl1 hm1 hR
  have hsh : shortK (l.map newK) = true := by
    unfold shortK
    rw [List.length_map, decide_eq_true (by omega : l.length ≤ 1048576), Bool.true_and, List.all_eq_true]
    intro k hk
    obtain ⟨p, hp, rfl⟩ := List.mem_map.1 hk
    have := hm1 p hp
    exact decide_eq_true (by show p.size ≤ 65536; omega)
  have HM2 := Aside0.mk (fun W (hb : Below w.heap.size w W) A' c' n (hn : n = (l.map newK).length) (hA : k58.C W A' n (l.map newK)) (hc' : n ≤ c') => by
    have := merge_any W A' c' (l.map newK) C e s.f2 (hn ▸ hA) hsh (hn ▸ hc') (Kd.C_below h3 hb) (fewK_short t3) l3
    rw [← hn] at this
    exact this)
  rw [pathsK_new, hR] at HM2
  clear hs ht l1 l2 l3 h1 h2 h3 t1 t2 t3 hm1 hR hsh
  generalize s.f0.length = n0 at HM1 ⊢
  generalize s.f1.length = n1 at HM1 ⊢
  generalize s.f2.length = n2 at HM2 ⊢
  go_enter Tryd.func43, Tryd.ntmps43
  go_wp2_with fail
  refine (HM1.out _ (bel _ _)).mono ?_
  rintro r1 w1 ⟨v1, rfl, hv, hb⟩
  have p1 := prev_call hb
  obtain ⟨A1, c1, rfl⟩ := Kd.R_slice hv
  have HV1 := Aside0.mk hv
  clear hb hv
  go_wp2_with fail
  have hbox : Go.Proofs.YtjllbkeobibnkaaDoorK.Holds w1 w.heap.size (.cells #[.slice A n0 c, .slice B n1 d, .slice C n2 e] 24) := inferInstance
  go_loopw [3, 12] (fun u i wr => ∃ j : Nat, j ≤ l.length ∧ i = .int .i64 (j : Int) ∧ Aside0 (Below w1.heap.size w1 wr) ∧ Aside0 (k58.R 58 wr w1.heap.size (fun _ => True) u ((l.take j).map newK))) (fun _ i _ => l.length - (intOf i).toNat)
  case atStart => exact ⟨0, Nat.zero_le _, rfl, ⟨Below.refl _ _⟩, ⟨Kd.R_nil _ _ _ _ _⟩⟩
  case round =>
    obtain ⟨j, hj, rfl, HB, HO⟩ := hrel
    have pr := prev_call HB.out
    have hlv : ((l.take j).map newK).length = j := by rw [List.length_map, List.length_take]; omega
    obtain ⟨Ao, co, ho⟩ := Kd.R_slice HO.out
    rw [hlv] at ho
    subst ho
    by_cases hlt : j < l.length
    · obtain ⟨ad, e0, x0⟩ := C_str' (Kd.C_below (Kd.R_reads' HV1.out).2.2 HB.out) j hlt
      subst e0
      have ht : l.take (j + 1) = l.take j ++ [l[j]] := List.take_succ_eq_append_getElem hlt
      generalize l[j] = p at x0 ht
      have HT := Aside0.mk ht
      clear ht
      go_wp2_with ((with_reducible refine gate_builtin (b := .append) (xs := #[.tmp 16, .tmp 19]) rfl ?_); at_builtin; refine app58 (w0 := w1) w1.heap.size rfl (.tmp 16) (.tmp 19) rfl (.slice Ao j co) ((l.take j).map newK) (newK p) rfl ?aX ?aO ?aB ?aS ?aL ?_; (case aX => first | rfl | (simp only [World.size_setCell, size_setRow, World.size_alloc]; rfl)); (case aO => exact rowB HO.out (bel wr _)); (case aB => exact (inferInstance : Bel w1.heap.size w1 _).out (by first | exact Nat.le_refl _ | omega)); (case aS => first | exact siz w1 _ | (have := siz w1 _; omega)); (case aL => rw [List.length_map, List.length_take]; omega); intro v6 w6 h6 hb6 hg6 hat6; have p6 := prev_above hb6; have HB6 := Aside0.mk hb6; have HV6 := Aside0.mk h6; clear hb6 h6 hg6 hat6)
      go_roundw
      case rel => exact ⟨j + 1, by omega, by go_num, HB6, ⟨by rw [HT.out, List.map_append]; exact HV6.out⟩⟩
      case measure => simp [intOf]; omega
    · have hv := HO.out
      rw [List.take_of_length_le (by omega)] at hv
      have hjl : j = l.length := by omega
      obtain ⟨_, hc2, hc3⟩ := Kd.R_reads' hv
      rw [List.length_map] at hc3
      rw [hjl] at hc2
      clear hjl
      have HC2 := Aside0.mk hc2
      have HC3 := Aside0.mk hc3
      clear hv hc2 hc3 HO
      go_wp2_with fail
      refine (HM2.out _ ?hb _ _ _ ?hn ?hA HC2.out).mono ?_
      case hn => rw [List.length_map]
      case hb => exact bel _ _
      case hA => exact Kd.C_below HC3.out (bel wr _)
      rintro r1 w2 ⟨v2, rfl, hv, hb⟩
      have p2 := prev_call hb
      have HV2 := Aside0.mk (Kd.R_lower hv (siz w wr))
      clear hb hv
      go_wp2_with fail
      go_ret
      exact ⟨_, rfl, HV2.out, bel _ _⟩
end Go.Proofs.YtjllbkeobibnkaaDoor.Q

namespace Go.Proofs.YtjllbkeobibnkaaDoor.Q
open Go Go.Proofs Go.Shelf Go.RowKit Go.Lib Go.Sort Go.Proofs.YtjllbkeobibnkaaDoorP Go.Proofs.YtjllbkeobibnkaaDoorK Go.Proofs.YtjllbkeobibnkaaDoorW.PrintWords Go.Proofs.YtjllbkeobibnkaaDoorW.PrintLast Go.Proofs.YtjllbkeobibnkaaDoorW.PrintMore
set_option linter.unusedVariables false
/-! ### merge.Do: what it computes -/
def z24 : S24 := ⟨[], [], []⟩
def doG (s : S24) (x : S33) (ver : Int) (y : S65) : S24 :=
  if x.f0 = 1 then ⟨withS s.f0 x.f2 { y.l with f0 := ver }, withS s.f1 x.f2 { y.l with f0 := ver }, withS s.f2 x.f2 { y.l with f0 := ver }⟩
  else if x.f0 = 2 then ⟨woS s.f0 x.f2, s.f1, woS s.f2 x.f2⟩
  else if x.f0 = 3 then ⟨withS s.f0 x.f2 y.r, withS s.f1 x.f2 y.r, s.f2⟩
  else if x.f0 = 4 then ⟨woS s.f0 x.f2, woS s.f1 x.f2, s.f2⟩
  else if x.f0 = 5 then ⟨withS s.f0 x.f2 y.r, withS s.f1 x.f2 { y.l with f0 := y.r.f0 }, s.f2⟩
  else if x.f0 = 7 then ⟨withS s.f0 x.f2 y.r, withS (withS s.f1 x.f3 y.l) x.f2 y.r, s.f2⟩
  else ⟨woS s.f0 x.f2, s.f1, s.f2⟩
def doT (s : S24) (x : S33) (ver : Int) (y : S65) (rd : Bool) : S24 × Int :=
  if rd = true then (if x.f0 = 1 ∧ (ver < 1 ∨ 1099511627776 < ver) then (z24, 2) else (doG s x ver y, 0)) else (z24, 9)
def doS (s : S24) (x : S33) (ver : Int) : S24 × Int :=
  if checkS s = 0 then doT s x ver (atS s x.f2) (readyS s x (atS s x.f2)) else (z24, 2)
theorem ready_kind {s : S24} {x : S33} {y : S65} (h : readyS s x y = true) : x.f0 = 1 ∨ x.f0 = 2 ∨ x.f0 = 3 ∨ x.f0 = 4 ∨ x.f0 = 5 ∨ x.f0 = 6 ∨ x.f0 = 7 := by
  apply Classical.byContradiction
  intro hn
  unfold readyS at h
  rw [if_neg (by omega), if_neg (by omega), if_neg (by omega), if_neg (by omega), if_neg (by omega), if_neg (by omega), if_neg (by omega)] at h
  cases h
theorem Row.ofR {w : World} {base : Nat} {v : Value} {l : List S58} (h : k58.R 58 w base (fun _ => True) v l) : Row w v l := ⟨C_ofR h⟩
theorem Row.ofC {w : World} {A : Option Addr} {c : Nat} {l : List S58} (h : k58.C w A l.length l) (hc : l.length ≤ c) : Row w (.slice A l.length c) l := ⟨⟨A, c, rfl, hc, h⟩⟩
theorem Row.nil (w : World) : Row w (.slice none 0 0) [] := ⟨⟨none, 0, rfl, Nat.le_refl _, Kd.C_nil k58 w⟩⟩
theorem SideIn.ofRow {w : World} {v0 v1 v2 : Value} {s : S24} (h0 : Row w v0 s.f0) (h1 : Row w v1 s.f1) (h2 : Row w v2 s.f2) : SideIn w s #[v0, v1, v2] := by
  obtain ⟨A, c, rfl, c1, c2⟩ := h0.out
  obtain ⟨B, d, rfl, d1, d2⟩ := h1.out
  obtain ⟨C, e, rfl, e1, e2⟩ := h2.out
  exact ⟨⟨A, c, B, d, C, e, rfl, c1, d1, e1, c2, d2, e2⟩⟩
theorem withS_short {l : List S58} (h : fewK l = true) {p : ByteArray} (hp : p.size ≤ 32000) (a : S51) : shortK (withS l p a) = true ∧ (withS l p a).length ≤ 100000 := by
  obtain ⟨h1, h2⟩ := fewK_open h
  rw [withS_ins]
  have h3 := ins_len p a l
  refine ⟨?_, by omega⟩
  unfold shortK
  rw [decide_eq_true (by omega : (insS p a l).length ≤ 1048576), Bool.true_and, List.all_eq_true]
  intro k hk
  rcases ins_mem hk with e | hk
  · rw [e]; exact decide_eq_true (by show p.size ≤ 65536; omega)
  · have := h2 k hk
    exact decide_eq_true (by omega)
theorem withS_ris {l : List S58} (h : risK l) (p : ByteArray) (a : S51) : risK (withS l p a) := by rw [withS_ins]; exact ins_ris h
end Go.Proofs.YtjllbkeobibnkaaDoor.Q
