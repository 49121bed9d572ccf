/- Parts of the proof: PScope, PL, KG, Q13, Q14, Q15, Q16, Q17, PRefM, HList, HRList, HCheck, HRCheck, HHasK, HFree, HCopy, HHasM, HRCopy, HMerge. -/
import Derived.Test.YtjllbkeobibnkaaDoorZT1
import Derived.StillTailTactics
import Derived.BigQuiet
import Derived.Deep.RegionHeld3
import Derived.Deep.DeepCutAuto
namespace Go.Proofs.YtjllbkeobibnkaaDoor.Q
open Go Go.Proofs Go.Shelf Go.RowKit Go.Lib Go.Sort Go.Proofs.YtjllbkeobibnkaaDoorP Go.Proofs.YtjllbkeobibnkaaDoorK Go.Proofs.YtjllbkeobibnkaaDoorW.PrintWords Go.Proofs.YtjllbkeobibnkaaDoorW.PrintLast Go.Proofs.YtjllbkeobibnkaaDoorW.PrintMore
set_option linter.unusedSimpArgs false
set_option linter.unusedVariables false
/-! ### What scope's functions compute. Plain. -/
def withinS (d p : ByteArray) : Bool := (p.toList == d.toList) || belowS d p
def leP (x y : ByteArray) : Prop := ¬ pcmp y x < 0
instance (x y : ByteArray) : Decidable (leP x y) := inferInstanceAs (Decidable (¬ _))
theorem leP_trans {x y z : ByteArray} (h1 : leP x y) (h2 : leP y z) : leP x z := by
  have := (swo_key good_path (fun x : ByteArray => x)).ntrans z y x
  simp only [ltOf, decide_eq_false_iff_not] at this
  exact this h2 h1
theorem leP_total (x y : ByteArray) : leP x y ∨ leP y x := by
  unfold leP
  have h := good_path.lt x y
  omega
theorem leP_anti {x y : ByteArray} (h1 : leP x y) (h2 : leP y x) : x = y := by
  unfold leP at h1 h2
  have a1 := good_path.lt x y
  have a2 := good_path.lt y x
  exact good_path.eq x y (by omega)
theorem leP_refl (x : ByteArray) : leP x x := by
  unfold leP
  rw [good_path.refl]
  decide
def insP (x : ByteArray) : List ByteArray → List ByteArray
  | [] => [x]
  | y :: l => if leP x y then x :: y :: l else y :: insP x l
def sortP : List ByteArray → List ByteArray
  | [] => []
  | x :: l => insP x (sortP l)
theorem insP_perm (x : ByteArray) (l : List ByteArray) : (insP x l).Perm (x :: l) := by
  induction l with
  | nil => exact List.Perm.refl _
  | cons y l ih =>
    unfold insP
    split
    · exact List.Perm.refl _
    · exact (List.Perm.cons y ih).trans (List.Perm.swap x y l)
theorem sortP_perm (l : List ByteArray) : (sortP l).Perm l := by
  induction l with
  | nil => exact List.Perm.refl _
  | cons x l ih => exact (insP_perm x _).trans (List.Perm.cons x ih)
theorem insP_sorted (x : ByteArray) (l : List ByteArray) (h : l.Pairwise leP) : (insP x l).Pairwise leP := by
  induction l with
  | nil => exact List.pairwise_singleton _ _
  | cons y l ih =>
    have h' := List.pairwise_cons.1 h
    unfold insP
    split
    · rename_i hxy
      refine List.pairwise_cons.2 ⟨fun z hz => ?_, h⟩
      rcases List.mem_cons.1 hz with rfl | hz
      · exact hxy
      · exact leP_trans hxy (h'.1 z hz)
    · rename_i hxy
      refine List.pairwise_cons.2 ⟨fun z hz => ?_, ih h'.2⟩
      rcases List.mem_cons.1 ((insP_perm x l).mem_iff.1 hz) with rfl | hz
      · exact (leP_total z y).resolve_left hxy
      · exact h'.1 z hz
theorem sortP_sorted (l : List ByteArray) : (sortP l).Pairwise leP := by
  induction l with
  | nil => exact List.Pairwise.nil
  | cons x l ih => exact insP_sorted x _ ih
theorem sortP_one {l m : List ByteArray} (hp : m.Perm l) (hs : m.Pairwise leP) : m = sortP l :=
  perm_sorted leP (fun a b h1 h2 => leP_anti h1 h2) m (sortP l) (hp.trans (sortP_perm l).symm) hs (sortP_sorted l) (fun a _ => leP_refl a)
/-- One more directory, behind those that are kept. -/
def addP (out : List ByteArray) (p : ByteArray) : List ByteArray := match out.getLast? with
  | none => [p]
  | some q => if withinS q p = true then out else out ++ [p]
def redA : List ByteArray → List ByteArray → List ByteArray
  | out, [] => out
  | out, p :: l => redA (addP out p) l
def reduceS (l : List ByteArray) : List ByteArray := redA [] (sortP l)
theorem addP_len (out : List ByteArray) (p : ByteArray) : (addP out p).length ≤ out.length + 1 := by
  unfold addP
  split
  · simp
  · split <;> simp
theorem redA_len (l : List ByteArray) : ∀ out, (redA out l).length ≤ out.length + l.length := by
  induction l with
  | nil => intro out; simp [redA]
  | cons p l ih =>
    intro out
    have h1 := ih (addP out p)
    have h2 := addP_len out p
    simp only [redA, List.length_cons]
    omega
theorem reduceS_len (l : List ByteArray) : (reduceS l).length ≤ l.length := by
  have h := redA_len (sortP l) []
  rw [(sortP_perm l).length_eq] at h
  unfold reduceS
  simpa using h
def shortP (l : List ByteArray) : Bool := decide (l.length ≤ 1048576) && l.all fun p => decide (p.size ≤ 65536)
theorem shortP_mem {l : List ByteArray} (h : shortP l = true) : l.length ≤ 1048576 ∧ ∀ p ∈ l, p.size ≤ 65536 := by
  unfold shortP at h
  simp only [Bool.and_eq_true, decide_eq_true_eq, List.all_eq_true] at h
  exact h
theorem shortP_mk {l : List ByteArray} (h1 : l.length ≤ 1048576) (h2 : ∀ p ∈ l, p.size ≤ 65536) : shortP l = true := by
  unfold shortP
  simp only [Bool.and_eq_true, decide_eq_true_eq, List.all_eq_true]
  exact ⟨h1, h2⟩
theorem shortP_app {a b : List ByteArray} (ha : shortP a = true) (hb : shortP b = true) (h : a.length + b.length ≤ 1048576) : shortP (a ++ b) = true :=
  shortP_mk (by rw [List.length_append]; exact h) (fun p hp => (List.mem_append.1 hp).elim ((shortP_mem ha).2 p) ((shortP_mem hb).2 p))
end Go.Proofs.YtjllbkeobibnkaaDoor.Q

namespace Go.Proofs.YtjllbkeobibnkaaDoorP
open Go Go.Lib
/-! A text, parted at each byte c. -/
def sepC (c : UInt8) : List UInt8 → List (List UInt8)
  | [] => [[]]
  | b :: l => if b = c then [] :: sepC c l else match sepC c l with
    | [] => [[b]]
    | n :: ns => (b :: n) :: ns
theorem sepC_ne (c : UInt8) (l : List UInt8) : sepC c l ≠ [] := by
  cases l with
  | nil => simp [sepC]
  | cons b l =>
    unfold sepC
    split
    · simp
    · split <;> simp
theorem split_sepC (c : UInt8) (l : List UInt8) : splitK [c] 0 (count l [c]) l = sepC c l := by
  induction l with
  | nil => rfl
  | cons b l ih =>
    by_cases h : b = c
    · subst h
      rw [count_cons_eq, Nat.add_comm, splitK, index_cons_eq, if_neg (by decide)]
      simp only [sepC, if_pos]
      simpa using ih
    · rw [count_cons_ne b c l h]
      simp only [sepC, if_neg h]
      rw [← ih]
      cases hk : count l [c] with
      | zero => simp [splitK]
      | succ k =>
        have hi : index l [c] ≠ -1 := fun e => by have := (index_none l c).1 e; omega
        have hg := index_ge l c
        obtain ⟨i, hii⟩ : ∃ i : Nat, index l [c] = (i : Int) := ⟨(index l [c]).toNat, by omega⟩
        rw [splitK, splitK, index_cons_ne l b c h, hii]
        have e1 : ¬ ((i : Int) == -1) = true := by simp <;> omega
        have e2 : ¬ ((i : Int) + 1 == -1) = true := by simp <;> omega
        rw [if_neg e1, if_neg e2, if_neg e1]
        have e3 : ((i : Int) + 1).toNat = i + 1 := by omega
        have e4 : (i : Int).toNat = i := by omega
        rw [e3, e4]
        simp
theorem names_sepC (l : List UInt8) : names l = sepC 47 l := by
  induction l with
  | nil => rfl
  | cons b l ih =>
    rw [names, sepC, ih]
    all_goals
      by_cases h : b = 47
      · rw [if_pos h, if_pos h]
      · rw [if_neg h, if_neg h]
        cases sepC 47 l <;> rfl
theorem sepC_size (c : UInt8) (l : List UInt8) : ∀ n ∈ sepC c l, n.length ≤ l.length := by
  induction l with
  | nil => intro n hn; simp [sepC] at hn; simp [hn]
  | cons b l ih =>
    intro n hn
    unfold sepC at hn
    split at hn
    · rcases List.mem_cons.1 hn with e | hn
      · rw [e]; exact Nat.zero_le _
      · exact Nat.le_succ_of_le (ih n hn)
    · split at hn
      · rename_i he
        exact absurd he (sepC_ne c l)
      · rename_i m ms he
        rcases List.mem_cons.1 hn with e | hn
        · rw [e, List.length_cons, List.length_cons]
          exact Nat.succ_le_succ (ih m (by rw [he]; exact List.mem_cons_self))
        · exact Nat.le_succ_of_le (ih n (by rw [he]; exact List.mem_cons_of_mem _ hn))
theorem sepC_len (c : UInt8) (l : List UInt8) : (sepC c l).length ≤ l.length + 1 := by
  induction l with
  | nil => simp [sepC]
  | cons b l ih =>
    unfold sepC
    split
    · simp only [List.length_cons]; omega
    · split
      · simp
      · rename_i m ms he
        rw [he] at ih
        simp only [List.length_cons] at ih ⊢
        omega
/-- Two texts with the byte between. -/
theorem sepC_app (c : UInt8) (a b : List UInt8) : sepC c (a ++ c :: b) = sepC c a ++ sepC c b := by
  induction a with
  | nil => simp [sepC]
  | cons x a ih =>
    rw [List.cons_append, sepC, sepC, ih]
    by_cases h : x = c
    · rw [if_pos h, if_pos h]; rfl
    · rw [if_neg h, if_neg h]
      cases hs : sepC c a with
      | nil => exact absurd hs (sepC_ne c a)
      | cons n ns => rfl
theorem sepC_free (c : UInt8) (a : List UInt8) (h : c ∉ a) : sepC c a = [a] := by
  induction a with
  | nil => rfl
  | cons x a ih =>
    unfold sepC
    rw [if_neg (fun e => h (by rw [e]; exact List.mem_cons_self)), ih (fun hm => h (List.mem_cons_of_mem _ hm))]
end Go.Proofs.YtjllbkeobibnkaaDoorP

namespace Go.Proofs.YtjllbkeobibnkaaDoorK
open Go Go.Proofs
/-! ### the order of strings: less, or greater, or alike -/
theorem bl_irrefl : ∀ x : List UInt8, Op.bytesLess x x = false
  | [] => rfl
  | a :: x => by
    have h := bl_irrefl x
    simp only [Op.bytesLess, h, Bool.and_false, Bool.or_false, decide_eq_false_iff_not]
    exact UInt8.lt_irrefl a
theorem bl_ne (x y : List UInt8) (h : Op.bytesLess y x = true) : (x == y) = false := by
  rw [beq_eq_false_iff_ne]
  rintro rfl
  rw [bl_irrefl] at h
  exact absurd h (by decide)
theorem bl_eq : ∀ x y : List UInt8, Op.bytesLess x y = false → Op.bytesLess y x = false → x = y
  | [], [] => fun _ _ => rfl
  | [], b :: y => fun h _ => absurd h (by simp [Op.bytesLess])
  | a :: x, [] => fun _ h => absurd h (by simp [Op.bytesLess])
  | a :: x, b :: y => fun h g => by
    simp only [Op.bytesLess, Bool.or_eq_false_iff, decide_eq_false_iff_not, Bool.and_eq_false_iff, beq_eq_false_iff_ne] at h g
    have hab : a = b := UInt8.le_antisymm (UInt8.not_lt.1 g.1) (UInt8.not_lt.1 h.1)
    subst hab
    rw [bl_eq x y (h.2.resolve_left (by simp)) (g.2.resolve_left (by simp))]
theorem bl_eqb (x y : List UInt8) (h : Op.bytesLess x y = false) (g : Op.bytesLess y x = false) : (x == y) = true := beq_iff_eq.2 (bl_eq x y h g)
@[go_sem] theorem binOp_string_gtr_k (t : TypeId) (a b : ByteArray) : binOp .gtr t (.string a) (.string b) = pure (.bool !(Op.bytesLess a.toList b.toList || a.toList == b.toList)) := by simp [binOp, Op.stringOp]
end Go.Proofs.YtjllbkeobibnkaaDoorK

namespace Go.Proofs.YtjllbkeobibnkaaDoor.Q
open Go.RowKit Go.Proofs.YtjllbkeobibnkaaDoorW.PrintWords Go.Proofs.YtjllbkeobibnkaaDoorW.PrintLast Go.Proofs.YtjllbkeobibnkaaDoorW.PrintMore Go.Proofs.YtjllbkeobibnkaaDoorK
attribute [local go_sem] max2_int min2_int max_two min_two max_three min_three max_four min_four   -- for this text's walks alone
attribute [local go_sem ↓] Go.Proofs.YtjllbkeobibnkaaDoorK.isSome_setCell
set_option linter.unusedVariables false
set_option linter.unusedSimpArgs false

/-! ### aquiferref05_Names: function 84 -/
def aquiferref05_Names.l0 : Nat → ByteArray → List ByteArray → Int → Option (List ByteArray)
  | 0, _, _, _ => none
  | k + 1, x0, x3, x4 => if x4 < (x0.size : Int) then (if 0 ≤ x4 then (if (bt x0 x4) = 47 then (if x3.length < 8796093022208 then (aquiferref05_Names.l0 k x0 (x3 ++ [(⟨#[]⟩ : ByteArray)]) (wrap64 (x4 + 1))) else (none)) else (if 0 ≤ (wrap64 ((x3.length : Int) - 1)) then (if (wrap64 ((x3.length : Int) - 1)) < (x3.length : Int) then (if x4 ≤ (wrap64 (x4 + 1)) then (if (wrap64 (x4 + 1)) ≤ (x0.size : Int) then (if (rdOf ByteArray.empty x3 (wrap64 ((x3.length : Int) - 1))).size + (x0.extract (x4 : Int).toNat ((wrap64 (x4 + 1)) : Int).toNat).size ≤ 9223372036854775807 then (aquiferref05_Names.l0 k x0 (x3.set ((wrap64 ((x3.length : Int) - 1)) : Int).toNat ((rdOf ByteArray.empty x3 (wrap64 ((x3.length : Int) - 1))) ++ (x0.extract (x4 : Int).toNat ((wrap64 (x4 + 1)) : Int).toNat))) (wrap64 (x4 + 1))) else (none)) else (none)) else (none)) else (none)) else (none))) else (none)) else (some x3)
def aquiferref05_Names.f (k : Nat) (a0 : ByteArray) : Option (List ByteArray) := aquiferref05_Names.l0 k a0 (([(⟨#[]⟩ : ByteArray)] : List ByteArray)) 0
theorem aquiferref05_Names.mono_l : ∀ k, (∀ y0 y1 y2, LeO (aquiferref05_Names.l0 k y0 y1 y2) (aquiferref05_Names.l0 (k + 1) y0 y1 y2))
  | 0 => fun _ _ _ r h => by simp [aquiferref05_Names.l0] at h
  | k + 1 => by
    have ih0 := aquiferref05_Names.mono_l k
    · intro y0 y1 y2
      unfold aquiferref05_Names.l0
      repeat' first
      | (with_reducible exact ih0 _ _ _)
      | (with_reducible exact LeO.refl _)
      | (with_reducible exact LeO.none _)
      | (with_reducible refine LeO.ite ?_ ?_)
      | (with_reducible refine LeO.bind ?_ (fun _ => ?_))
      | exact ih0 _ _ _
      | exact LeO.none _
      | refine LeO.ite ?_ ?_
      | refine LeO.bind ?_ (fun _ => ?_)
theorem aquiferref05_Names.mono : ∀ a0 k, LeO (aquiferref05_Names.f k a0) (aquiferref05_Names.f (k + 1) a0) := by
  intro a0 k
  have ih0 := aquiferref05_Names.mono_l k
  unfold aquiferref05_Names.f
  repeat' first
      | (with_reducible exact ih0 _ _ _)
      | (with_reducible exact LeO.refl _)
      | (with_reducible exact LeO.none _)
      | (with_reducible refine LeO.ite ?_ ?_)
      | (with_reducible refine LeO.bind ?_ (fun _ => ?_))
      | exact ih0 _ _ _
      | exact LeO.none _
      | refine LeO.ite ?_ ?_
      | refine LeO.bind ?_ (fun _ => ?_)
def aquiferref05_Names.T7 : Bool × List (List Nat × List Nat) := (true, [([], []), ([], []), ([1], [1]), ([2], [2]), ([], []), ([], []), ([5], [5]), ([6], [6]), ([4, 7], [4, 7]), ([8], [8]), ([], []), ([], []), ([], []), ([12], [12]), ([10, 11, 13], [10, 11, 13]), ([9, 14], [9, 14]), ([0, 3, 0, 1, 2, 3, 4, 5, 6, 7, 8, 9, 10, 11, 12, 13, 14, 15], [0, 3]), ([16, 15, 0, 1, 2, 3, 4, 5, 6, 7, 8, 9, 10, 11, 12, 13, 14, 15], [15, 16])])
def aquiferref05_Names.B7 : List Nat := [0, 0, 2, 6, 0, 0, 32, 96, 240, 496, 0, 0, 0, 4096, 15360, 32752, 65535, 131071]
theorem aquiferref05_Names.tab7 : rtab .any (opsOf Tryd.f84 7) = aquiferref05_Names.T7 := by kernel_rfl
theorem aquiferref05_Names.bits7 : waitsOk aquiferref05_Names.T7.2 aquiferref05_Names.B7 = true := by kernel_rfl
set_option maxHeartbeats 8000000 in
set_option maxRecDepth 100000 in
theorem aquiferref05_Names.calls (k : Nat) (a0 : ByteArray) (r : List ByteArray) (w : World) (h : aquiferref05_Names.f k a0 = some r) :
    Calls Tryd.prog 84 #[.string a0] w fun e w' => ∃ v0_ : Value, e = .returned (v0_) ∧ Kd.R Kd.string 9 w' w.heap.size (fun _ => True) v0_ r ∧ Below w.heap.size w w' := by
  have HB := Aside0.mk (Below.refl w.heap.size w)
  have H : (aquiferref05_Names.l0 k a0 (([(⟨#[]⟩ : ByteArray)] : List ByteArray)) 0) = some r := h
  clear h
  obtain ⟨y101, hy101⟩ : ∃ y_ : List ByteArray, y_ = (([(⟨#[]⟩ : ByteArray)] : List ByteArray)) := ⟨_, rfl⟩
  replace H : (aquiferref05_Names.l0 k a0 y101 0) = some r := by first | (rw [hy101]; with_reducible exact H) | (have H2_ := (Option.bind_some _ _).symm.trans H; rw [hy101]; with_reducible exact H2_) | (have H2_ := (Option.bind_some _ _).symm.trans H; with_reducible exact H2_) | with_reducible exact H | (rw [hy101]; exact H) | exact H
  have Ny101 := Aside0.mk hy101
  clear hy101
  have H' := Aside0.mk H
  clear H
  go_enter Tryd.func84, Tryd.ntmps84
  go_wp2_with (first | ((with_reducible refine gate_dst (N := 5) rfl ?_); refine Kd.R_lit Kd.string _ 9 ?hg (N := 5) ?hd (xs := ([(⟨#[]⟩ : ByteArray)] : List ByteArray)) (inner := [.string (⟨#[]⟩ : ByteArray)]) (ok := fun _ => True) (okp := fun _ => True) ?hr ?hp (fun _ hk => hk) trivial (Below.refl _ _) (Nat.le_refl _) (by simp) ?_; (case hd => rfl); (case hg => rfl); (case hr => first | (go_simp; done) | (go_simp; rfl)); (case hp => exact (Reps.one (show Kd.M Kd.string _ _ _ (⟨#[]⟩ : ByteArray) [.string (⟨#[]⟩ : ByteArray)] from rfl) (Reps.none _ _))); intro v102 w2 ho3 hb hg_ hnew_; clear hg_ hnew_; (first | rw [← Ny101.out] at ho3 | (simp only [Int.reduceToNat] at ho3; rw [← Ny101.out] at ho3)); have n0_ := Aside0.mk (Kd.R_lower ho3 (sizU HB.out)); have n1_ := Aside0.mk (below_step (belU HB.out) hb); clear HB; have HO103 := n0_; have HB := n1_; clear n0_ n1_; clear hb ho3))
  go_loopg [3, 4] k (fun kq v3 v4 w' => ∃ (x3_1 : List ByteArray) (x4_1 : Int), v4 = .int .i64 x4_1 ∧ Aside0 (aquiferref05_Names.l0 kq a0 x3_1 x4_1 = some r) ∧ Aside0 (kq ≤ k) ∧ Aside0 (Kd.R Kd.string 9 w' w.heap.size (fun _ => True) v3 x3_1) ∧ Aside0 (Below w.heap.size w w'))
  case atStart => exact ⟨(y101), (0), (by first | rfl | (simp; done) | (simp [*]; done)), H', ⟨Nat.le_refl _⟩, ⟨RU HO103.out⟩, ⟨belU HB.out⟩⟩
  case round =>
    clear H'
    try clear p2
    obtain ⟨x3_1, x4_1, rfl, HA, HK1, HO_3, HB⟩ := hrel
    cases gk with
    | zero => exact absurd HA.out (by simp [aquiferref05_Names.l0])
    | succ k1 =>
      have H := HA.out
      clear HA
      simp only [aquiferref05_Names.l0] at H
      by_cases c4 : x4_1 < (a0.size : Int)
      · rw [if_pos c4] at H
        have c4b0 : decide (x4_1 < (a0.size : Int)) = true := decide_eq_true c4
        clear c4
        by_cases c5 : 0 ≤ x4_1
        · rw [if_pos c5] at H
          have c5b0 : decide (0 ≤ x4_1) = true := decide_eq_true c5
          clear c5
          by_cases c7 : (bt a0 x4_1) = 47
          · rw [if_pos c7] at H
            have c7b0 : ((bt a0 x4_1) == 47) = true := beq_iff_eq.mpr c7
            have c7b1 : ((bt a0 x4_1) != 47) = false := bne_eq_false_iff_eq.mpr c7
            clear c7
            by_cases c8 : x3_1.length < 8796093022208
            · rw [if_pos c8] at H
              have LMc8 := Aside0.mk c8
              clear c8
              obtain ⟨y104, hy104⟩ : ∃ y_ : List ByteArray, y_ = (x3_1 ++ [(⟨#[]⟩ : ByteArray)]) := ⟨_, rfl⟩
              replace H : (aquiferref05_Names.l0 k1 a0 y104 (wrap64 (x4_1 + 1))) = some r := by first | (rw [hy104]; with_reducible exact H) | (have H2_ := (Option.bind_some _ _).symm.trans H; rw [hy104]; with_reducible exact H2_) | (have H2_ := (Option.bind_some _ _).symm.trans H; with_reducible exact H2_) | with_reducible exact H | (rw [hy104]; exact H) | exact H
              have Ny104 := Aside0.mk hy104
              clear hy104
              have H' := Aside0.mk H
              clear H
              have p6 : 0 ≤ (x4_1 : Int) := of_decide_eq_true (by first | (with_reducible assumption) | assumption)
              have q6 : x4_1 < (a0.size : Int) := of_decide_eq_true (by first | (with_reducible assumption) | assumption)
              have hx6 := bt_at a0 x4_1
              replace p6 := eq_true p6
              replace q6 := eq_true q6
              go_wp2_with (first | ((with_reducible refine gate_builtin (b := .append) (xs := #[.tmp 16, .tmp 17]) rfl ?_); at_builtin; refine Kd.R_append Kd.string (w0 := w) w.heap.size rfl (.tmp 16) (.tmp 17) 41 9 (.string ⟨#[]⟩) 16 rfl Tryd.underlying41 info9 rfl (by decide) (by omega) u3 x3_1 (⟨#[]⟩ : ByteArray) [.string (⟨#[]⟩ : ByteArray)] (fun _ => True) (fun _ => False) rfl rfl ?aP (fun _ hk => hk.elim) ?aF ?aO ?aB ?aS ?aL ?_; (case aP => exact rfl); (case aB => exact (belU HB.out)); (case aF => exact (fun _ _ => trivial)); (case aO => exact (RU HO_3.out)); (case aS => exact (sizU HB.out)); (case aL => have := LMc8.out; omega); intro v105 w9 ho hb hg hat; rw [← Ny104.out] at ho; have n0_ := Aside0.mk (hb); have n1_ := Aside0.mk (ho); clear HB; clear HO_3; have HB := n0_; have HO106 := n1_; clear n0_ n1_; clear ho hb hg hat))
              go_roundg k1
              case measure => have := HK1.out; omega
              case rel => exact ⟨(y104), (wrap64 (x4_1 + 1)), (by first | rfl | (simp; done) | (simp [*]; done)), H', ⟨by have := HK1.out; omega⟩, ⟨RU HO106.out⟩, ⟨belU HB.out⟩⟩
            · rw [if_neg c8] at H
              exact absurd H (by simp)
          · rw [if_neg c7] at H
            have c7b0 : ((bt a0 x4_1) == 47) = false := beq_eq_false_iff_ne.mpr c7
            have c7b1 : ((bt a0 x4_1) != 47) = true := bne_iff_ne.mpr c7
            obtain ⟨ji10, hji10⟩ : ∃ j_ : Int, (wrap64 ((x3_1.length : Int) - 1)) = j_ := ⟨_, rfl⟩
            replace H : (if 0 ≤ (ji10) then (if (ji10) < (x3_1.length : Int) then (if x4_1 ≤ (wrap64 (x4_1 + 1)) then (if (wrap64 (x4_1 + 1)) ≤ (a0.size : Int) then (if (rdOf ByteArray.empty x3_1 (ji10)).size + (a0.extract (x4_1 : Int).toNat ((wrap64 (x4_1 + 1)) : Int).toNat).size ≤ 9223372036854775807 then (aquiferref05_Names.l0 k1 a0 (x3_1.set ((ji10) : Int).toNat ((rdOf ByteArray.empty x3_1 (ji10)) ++ (a0.extract (x4_1 : Int).toNat ((wrap64 (x4_1 + 1)) : Int).toNat))) (wrap64 (x4_1 + 1))) else (none)) else (none)) else (none)) else (none)) else (none)) = some r := by first | (rw [hji10] at H; exact H) | (simp only [hji10] at H ⊢; exact H)
            have hji10w : (IntKind.i64.wrap ((x3_1.length : Int) - 1)) = ji10 := (i64_w _).trans hji10
            by_cases c11 : 0 ≤ (ji10)
            · rw [if_pos c11] at H
              have c11b0 : decide (0 ≤ (ji10)) = true := decide_eq_true c11
              clear c11
              by_cases c12 : (ji10) < (x3_1.length : Int)
              · rw [if_pos c12] at H
                have c12b0 : decide ((ji10) < (x3_1.length : Int)) = true := decide_eq_true c12
                clear c12
                have c13b0 := eq_true (of_decide_eq_true (by first | (with_reducible assumption) | assumption) : 0 ≤ x4_1)
                by_cases c14 : x4_1 ≤ (wrap64 (x4_1 + 1))
                · rw [if_pos c14] at H
                  have c14b0 := eq_true c14
                  have c14b1 : decide (x4_1 ≤ (wrap64 (x4_1 + 1))) = true := decide_eq_true c14
                  by_cases c15 : (wrap64 (x4_1 + 1)) ≤ (a0.size : Int)
                  · rw [if_pos c15] at H
                    have c15b0 := eq_true c15
                    have c15b1 : decide ((wrap64 (x4_1 + 1)) ≤ (a0.size : Int)) = true := decide_eq_true c15
                    by_cases c16 : (rdOf ByteArray.empty x3_1 (ji10)).size + (a0.extract (x4_1 : Int).toNat ((wrap64 (x4_1 + 1)) : Int).toNat).size ≤ 9223372036854775807
                    · rw [if_pos c16] at H
                      have c16b0 := eq_true c16
                      have c16b1 : decide ((rdOf ByteArray.empty x3_1 (ji10)).size + (a0.extract (x4_1 : Int).toNat ((wrap64 (x4_1 + 1)) : Int).toNat).size ≤ 9223372036854775807) = true := decide_eq_true c16
                      try have c16b2 : (9223372036854775807 < (rdOf ByteArray.empty x3_1 (ji10)).size + (a0.extract (x4_1 : Int).toNat ((wrap64 (x4_1 + 1)) : Int).toNat).size) = False := eq_false (Nat.not_lt.2 c16)
                      try have c16b3 : (9223372036854775807 < (rdOf ByteArray.empty x3_1 (ji10)).size + (((wrap64 (x4_1 + 1)) : Int).toNat - (x4_1 : Int).toNat)) = False := eq_false (by have h_ := c16; simp only [ByteArray.size_extract] at h_; omega)
                      obtain ⟨y108, hy108⟩ : ∃ y_ : List ByteArray, y_ = (x3_1.set ((ji10) : Int).toNat ((rdOf ByteArray.empty x3_1 (ji10)) ++ (a0.extract (x4_1 : Int).toNat ((wrap64 (x4_1 + 1)) : Int).toNat))) := ⟨_, rfl⟩
                      replace H : (aquiferref05_Names.l0 k1 a0 y108 (wrap64 (x4_1 + 1))) = some r := by first | (rw [hy108]; with_reducible exact H) | (have H2_ := (Option.bind_some _ _).symm.trans H; rw [hy108]; with_reducible exact H2_) | (have H2_ := (Option.bind_some _ _).symm.trans H; with_reducible exact H2_) | with_reducible exact H | (rw [hy108]; exact H) | exact H
                      have Ny108 := Aside0.mk hy108
                      clear hy108
                      have H' := Aside0.mk H
                      clear H
                      have p6 : 0 ≤ (x4_1 : Int) := of_decide_eq_true (by first | (with_reducible assumption) | assumption)
                      have q6 : x4_1 < (a0.size : Int) := of_decide_eq_true (by first | (with_reducible assumption) | assumption)
                      have hx6 := bt_at a0 x4_1
                      replace p6 := eq_true p6
                      replace q6 := eq_true q6
                      try go_wp2
                      have n0_ := Aside0.mk (Kd.R_drew HO_3.out)
                      have n1_ := Aside0.mk (below_drew1 HB.out)
                      clear HO_3
                      clear HB
                      have HO_3 := n0_
                      have HB := n1_
                      clear n0_ n1_
                      obtain ⟨Ao19, co19, eo19⟩ := Kd.R_slice HO_3.out
                      (first | subst eo19 | (injection eo19 with f1_ f2_ f3_; have f4_ := f1_.symm; have f5_ := f3_.symm; clear f1_ f2_ f3_; subst f4_; subst f5_))
                      have p107 : 0 ≤ ((ji10) : Int) := of_decide_eq_true (by first | (with_reducible assumption) | assumption)
                      have q107 : (ji10) < (x3_1.length : Int) := of_decide_eq_true (by first | (with_reducible assumption) | assumption)
                      obtain ⟨ad107, e107, hx107_0⟩ := Kd.at_string (Kd.R_reads' HO_3.out).2.2 (ji10) p107 q107
                      cases e107
                      replace p107 := eq_true p107
                      replace q107 := eq_true q107
                      have p17 : 0 ≤ ((ji10) : Int) := of_decide_eq_true (by first | (with_reducible assumption) | assumption)
                      have q17 : ((ji10) : Int) < ((x3_1.length : Int) : Int) := of_decide_eq_true (by first | (with_reducible assumption) | assumption)
                      obtain ⟨go17, co17, eo17, gb17, gl17, cl17, HG17⟩ := Kd.R_form HO_3.out (by omega)
                      (first | cases eo17 | (injection eo17 with ea_ en_ ec_; (first | subst ea_ | (injection ea_ with ea_; subst ea_)); subst ec_; clear en_))
                      have GB17 := Aside0.mk gb17
                      have GG17 := Aside0.mk HG17
                      clear gb17 gl17 HG17
                      (first | simp only [add_plain] at hx107_0 | skip)
                      obtain ⟨hx17_0, hf17_0⟩ := Kd.R_celln (⟨#[]⟩ : ByteArray) HO_3.out ((ji10) : Int) p17 q17
                      replace p17 := eq_true p17
                      replace q17 := eq_true q17
                      have HP20 := Kd.R_putn HO_3.out ((ji10) : Int) ((rdOf ByteArray.empty x3_1 (ji10)) ++ (a0.extract (x4_1 : Int).toNat ((wrap64 (x4_1 + 1)) : Int).toNat))
                      rw [← Ny108.out] at HP20
                      have HQ20 := Aside0.mk HP20
                      clear HP20
                      refine start_ (n := 18) (S := fun w' => w'.cell? ⟨go17, ((ji10)).toNat, none⟩ = some (.string (rdOf ByteArray.empty x3_1 (ji10)))) (ds := [17]) #[false, false, false, false, false, false, false, false, false, false, false, false, false, false, false, false, false, false] (by kernel_rfl) rfl rfl (hx107_0) (fun hHeld => ?_); refine with_tabW aquiferref05_Names.tab7 aquiferref05_Names.bits7 (fun HT_ HW_ => ?_)
                      generalize wr.drew = w18 at HO_3 HB GG17 HQ20 hf17_0 hx107_0 hx17_0 hHeld ⊢
                      refine pure_ (i := 0) (N := some 19) (v := ?_) (a' := ?_) #[true, false, false, false, false, false, false, false, false, false, false, false, false, false, false, false, false, false] rfl rfl (any_of HT_.out (by kernel_rfl)) (fun _ _ _ h => h) (Or.inl ⟨by rfl, ?_⟩) ?_ ?_
                      rotate_left
                      · intro w'
                        go_simp
                        with_reducible rfl
                      rotate_left
                      · simp only [Act.put, List.setIfInBounds_toArray, List.set_cons_zero, List.set_cons_succ, i64_w, i32_w]
                        rfl
                      refine pure_ (i := 1) (N := some 20) (v := ?_) (a' := ?_) #[true, true, false, false, false, false, false, false, false, false, false, false, false, false, false, false, false, false] rfl rfl (any_of HT_.out (by kernel_rfl)) (fun _ _ _ h => h) (Or.inl ⟨by rfl, ?_⟩) ?_ ?_
                      rotate_left
                      · intro w'
                        go_simp
                        with_reducible rfl
                      rotate_left
                      · simp only [Act.put, List.setIfInBounds_toArray, List.set_cons_zero, List.set_cons_succ, i64_w, i32_w]
                        rfl
                      refine pure_ (i := 2) (N := some 21) (v := ?_) (a' := ?_) #[true, true, true, false, false, false, false, false, false, false, false, false, false, false, false, false, false, false] rfl rfl (any_of HT_.out (by kernel_rfl)) (fun _ _ _ h => h) (Or.inl ⟨by rfl, ?_⟩) ?_ ?_
                      rotate_left
                      · intro w'
                        go_simp
                        with_reducible rfl
                      rotate_left
                      · simp only [Act.put, List.setIfInBounds_toArray, List.set_cons_zero, List.set_cons_succ, i64_w, i32_w]
                        rfl
                      refine pure_ (i := 3) (N := some 22) (v := ?_) (a' := ?_) #[true, true, true, true, false, false, false, false, false, false, false, false, false, false, false, false, false, false] rfl rfl (any_of HT_.out (by kernel_rfl)) (fun _ _ _ h => h) (Or.inl ⟨by rfl, ?_⟩) ?_ ?_
                      rotate_left
                      · intro w'
                        go_simp
                        with_reducible rfl
                      rotate_left
                      · simp only [Act.put, List.setIfInBounds_toArray, List.set_cons_zero, List.set_cons_succ, i64_w, i32_w]
                        rfl
                      refine pure_ (i := 4) (N := some 23) (v := ?_) (a' := ?_) #[true, true, true, true, true, false, false, false, false, false, false, false, false, false, false, false, false, false] rfl rfl (any_of HT_.out (by kernel_rfl)) (fun _ _ _ h => h) (Or.inl ⟨by rfl, ?_⟩) ?_ ?_
                      rotate_left
                      · intro w'
                        go_simp
                        with_reducible rfl
                      rotate_left
                      · simp only [Act.put, List.setIfInBounds_toArray, List.set_cons_zero, List.set_cons_succ, i64_w, i32_w]
                        rfl
                      refine pure_ (i := 5) (N := some 24) (v := ?_) (a' := ?_) #[true, true, true, true, true, true, false, false, false, false, false, false, false, false, false, false, false, false] rfl rfl (any_of HT_.out (by kernel_rfl)) (fun _ _ _ h => h) (Or.inl ⟨by rfl, ?_⟩) ?_ ?_
                      rotate_left
                      · intro w'
                        go_simp
                        with_reducible rfl
                      rotate_left
                      · simp only [Act.put, List.setIfInBounds_toArray, List.set_cons_zero, List.set_cons_succ, i64_w, i32_w]
                        rfl
                      refine pure_ (i := 6) (N := some 25) (v := ?_) (a' := ?_) #[true, true, true, true, true, true, true, false, false, false, false, false, false, false, false, false, false, false] rfl rfl (any_of HT_.out (by kernel_rfl)) (fun _ _ _ h => h) (Or.inl ⟨by rfl, ?_⟩) ?_ ?_
                      rotate_left
                      · intro w'
                        go_simp
                        with_reducible rfl
                      rotate_left
                      · simp only [Act.put, List.setIfInBounds_toArray, List.set_cons_zero, List.set_cons_succ, i64_w, i32_w]
                        rfl
                      refine pure_ (i := 7) (N := some 26) (v := ?_) (a' := ?_) #[true, true, true, true, true, true, true, true, false, false, false, false, false, false, false, false, false, false] rfl rfl (any_of HT_.out (by kernel_rfl)) (fun _ _ _ h => h) (Or.inl ⟨by rfl, ?_⟩) ?_ ?_
                      rotate_left
                      · intro w'
                        go_simp
                        with_reducible rfl
                      rotate_left
                      · simp only [Act.put, List.setIfInBounds_toArray, List.set_cons_zero, List.set_cons_succ, i64_w, i32_w]
                        rfl
                      refine pure_ (i := 8) (N := some 27) (v := ?_) (a' := ?_) #[true, true, true, true, true, true, true, true, true, false, false, false, false, false, false, false, false, false] rfl rfl (any_of HT_.out (by kernel_rfl)) (fun _ _ _ h => h) (Or.inl ⟨by rfl, ?_⟩) ?_ ?_
                      rotate_left
                      · intro w'
                        go_simp
                        with_reducible rfl
                      rotate_left
                      · simp only [Act.put, List.setIfInBounds_toArray, List.set_cons_zero, List.set_cons_succ, i64_w, i32_w]
                        rfl
                      refine pure_ (i := 10) (N := some 29) (v := ?_) (a' := ?_) #[true, true, true, true, true, true, true, true, true, false, true, false, false, false, false, false, false, false] rfl rfl (any_of HT_.out (by kernel_rfl)) (fun _ _ _ h => h) (Or.inl ⟨by rfl, ?_⟩) ?_ ?_
                      rotate_left
                      · intro w'
                        go_simp
                        with_reducible rfl
                      rotate_left
                      · simp only [Act.put, List.setIfInBounds_toArray, List.set_cons_zero, List.set_cons_succ, i64_w, i32_w]
                        rfl
                      refine pure_ (i := 11) (N := some 30) (v := ?_) (a' := ?_) #[true, true, true, true, true, true, true, true, true, false, true, true, false, false, false, false, false, false] rfl rfl (any_of HT_.out (by kernel_rfl)) (fun _ _ _ h => h) (Or.inl ⟨by rfl, ?_⟩) ?_ ?_
                      rotate_left
                      · intro w'
                        go_simp
                        with_reducible rfl
                      rotate_left
                      · simp only [Act.put, List.setIfInBounds_toArray, List.set_cons_zero, List.set_cons_succ, i64_w, i32_w]
                        rfl
                      refine pure_ (i := 12) (N := some 31) (v := ?_) (a' := ?_) #[true, true, true, true, true, true, true, true, true, false, true, true, true, false, false, false, false, false] rfl rfl (any_of HT_.out (by kernel_rfl)) (fun _ _ _ h => h) (Or.inl ⟨by rfl, ?_⟩) ?_ ?_
                      rotate_left
                      · intro w'
                        go_simp
                        with_reducible rfl
                      rotate_left
                      · simp only [Act.put, List.setIfInBounds_toArray, List.set_cons_zero, List.set_cons_succ, i64_w, i32_w]
                        rfl
                      refine pure_ (i := 13) (N := some 32) (v := ?_) (a' := ?_) #[true, true, true, true, true, true, true, true, true, false, true, true, true, true, false, false, false, false] rfl rfl (any_of HT_.out (by kernel_rfl)) (fun _ _ _ h => h) (Or.inl ⟨by rfl, ?_⟩) ?_ ?_
                      rotate_left
                      · intro w'
                        go_simp
                        with_reducible rfl
                      rotate_left
                      · simp only [Act.put, List.setIfInBounds_toArray, List.set_cons_zero, List.set_cons_succ, i64_w, i32_w]
                        rfl
                      refine pure_ (i := 14) (N := some 33) (v := ?_) (a' := ?_) #[true, true, true, true, true, true, true, true, true, false, true, true, true, true, true, false, false, false] rfl rfl (any_of HT_.out (by kernel_rfl)) (fun _ _ _ h => h) (Or.inl ⟨by rfl, ?_⟩) ?_ ?_
                      rotate_left
                      · intro w'
                        go_simp
                        with_reducible rfl
                      rotate_left
                      · simp only [Act.put, List.setIfInBounds_toArray, List.set_cons_zero, List.set_cons_succ, i64_w, i32_w]
                        rfl
                      refine take_ (i := 9) (N := some 28) (v := ?_) (a' := ?_) #[true, true, true, true, true, true, true, true, true, true, true, true, true, true, true, false, false, false] rfl rfl (take_ofW HT_.out HW_.out (by kernel_rfl)) (fun _ _ _ h => h) (Or.inl ⟨by rfl, ?_⟩) hHeld ?_ ?_
                      rotate_left
                      · intro w' s0
                        go_simp
                        with_reducible rfl
                      rotate_left
                      · simp only [Act.put, List.setIfInBounds_toArray, List.set_cons_zero, List.set_cons_succ, i64_w, i32_w]
                        rfl
                      refine pure_ (i := 15) (N := some 34) (v := ?_) (a' := ?_) #[true, true, true, true, true, true, true, true, true, true, true, true, true, true, true, true, false, false] rfl rfl (any_of HT_.out (by kernel_rfl)) (fun _ _ _ h => h) (Or.inl ⟨by rfl, ?_⟩) ?_ ?_
                      rotate_left
                      · intro w'
                        go_simp
                        with_reducible rfl
                      rotate_left
                      · simp only [Act.put, List.setIfInBounds_toArray, List.set_cons_zero, List.set_cons_succ, i64_w, i32_w]
                        rfl
                      refine pure_ (i := 16) (N := some 35) (v := ?_) (a' := ?_) #[true, true, true, true, true, true, true, true, true, true, true, true, true, true, true, true, true, false] rfl rfl (any_of HT_.out (by kernel_rfl)) (fun _ _ _ h => h) (Or.inl ⟨by rfl, ?_⟩) ?_ ?_
                      rotate_left
                      · intro w'
                        go_simp
                        with_reducible rfl
                      rotate_left
                      · simp only [Act.put, List.setIfInBounds_toArray, List.set_cons_zero, List.set_cons_succ, i64_w, i32_w]
                        rfl
                      refine last_ (i := 17) (N := none) #[true, true, true, true, true, true, true, true, true, true, true, true, true, true, true, true, true, true] rfl rfl (one_of HT_.out (by kernel_rfl)) (by decide) (fun K hK => ?_)
                      refine skip_ (w1 := ?_) (by rfl) rfl ?_ ?_
                      rotate_left
                      · go_simp
                        rfl
                      refine hK.out _ _ ?_
                      clear hK K
                      refine done_ (done_of HT_.out (by kernel_rfl)) ?_
                      try go_wp2
                      go_roundg k1
                      case measure => have := HK1.out; omega
                      case rel => exact ⟨(y108), (wrap64 (x4_1 + 1)), (by first | rfl | (simp; done) | (simp [*]; done)), H', ⟨by have := HK1.out; omega⟩, ⟨RU HQ20.out⟩, ⟨belG HB.out GB17.out⟩⟩
                    · rw [if_neg c16] at H
                      exact absurd H (by simp)
                  · rw [if_neg c15] at H
                    exact absurd H (by simp)
                · rw [if_neg c14] at H
                  exact absurd H (by simp)
              · rw [if_neg c12] at H
                exact absurd H (by simp)
            · rw [if_neg c11] at H
              exact absurd H (by simp)
        · rw [if_neg c5] at H
          exact absurd H (by simp)
      · rw [if_neg c4] at H
        have c4b0 : decide (x4_1 < (a0.size : Int)) = false := decide_eq_false c4
        clear c4
        obtain rfl := Option.some.inj H
        go_wp2
        go_ret
        exact ⟨_, by first | rfl | (simp [errW_none, errW_some] <;> rfl) | (simp [*, errW_none, errW_some] <;> rfl), by (with_reducible repeat (first | apply Kd.R_alloc | apply Kd.R_drewN | apply Kd.R_drew)); exact HO_3.out, belU HB.out⟩

end Go.Proofs.YtjllbkeobibnkaaDoor.Q

namespace Go.Proofs.YtjllbkeobibnkaaDoor.Q
open Go.RowKit Go.Proofs.YtjllbkeobibnkaaDoorW.PrintWords Go.Proofs.YtjllbkeobibnkaaDoorW.PrintLast Go.Proofs.YtjllbkeobibnkaaDoorW.PrintMore
attribute [local go_sem] max2_int min2_int max_two min_two max_three min_three max_four min_four   -- for this text's walks alone
attribute [local go_sem ↓] Go.Proofs.YtjllbkeobibnkaaDoorK.isSome_setCell
set_option linter.unusedVariables false
set_option linter.unusedSimpArgs false

/-! ### aquiferref05_sign: function 95 -/
def aquiferref05_sign.f (a0 : Int) : Option (Bool) := if a0 ≥ 97 then (if a0 ≤ 122 then (some true) else (if a0 ≥ 48 then (if a0 ≤ 57 then (some true) else (if a0 = 95 then (some true) else (if a0 = 45 then (some true) else (some (a0 == 126))))) else (if a0 = 95 then (some true) else (if a0 = 45 then (some true) else (some (a0 == 126)))))) else (if a0 ≥ 48 then (if a0 ≤ 57 then (some true) else (if a0 = 95 then (some true) else (if a0 = 45 then (some true) else (some (a0 == 126))))) else (if a0 = 95 then (some true) else (if a0 = 45 then (some true) else (some (a0 == 126)))))
set_option maxHeartbeats 8000000 in
set_option maxRecDepth 100000 in
theorem aquiferref05_sign.calls (a0 : Int) (r : Bool) (w : World) (h : aquiferref05_sign.f a0 = some r) :
    Calls Tryd.prog 95 #[.int .u8 a0] w fun e w' => e = .returned (.bool r) ∧ Drawn0 w w' := by
  have H : (if a0 ≥ 97 then (if a0 ≤ 122 then (some true) else (if a0 ≥ 48 then (if a0 ≤ 57 then (some true) else (if a0 = 95 then (some true) else (if a0 = 45 then (some true) else (some (a0 == 126))))) else (if a0 = 95 then (some true) else (if a0 = 45 then (some true) else (some (a0 == 126)))))) else (if a0 ≥ 48 then (if a0 ≤ 57 then (some true) else (if a0 = 95 then (some true) else (if a0 = 45 then (some true) else (some (a0 == 126))))) else (if a0 = 95 then (some true) else (if a0 = 45 then (some true) else (some (a0 == 126)))))) = some r := h
  clear h
  by_cases c2 : a0 ≥ 97
  · rw [if_pos c2] at H
    have c2b0 : decide (97 ≤ a0) = true := decide_eq_true c2
    clear c2
    by_cases c3 : a0 ≤ 122
    · rw [if_pos c3] at H
      have c3b0 : decide (a0 ≤ 122) = true := decide_eq_true c3
      clear c3
      obtain rfl := Option.some.inj H
      go_enter Tryd.func95, Tryd.ntmps95
      go_wp2
      go_ret
      exact ⟨by first | rfl | (simp; done) | (simp [*]; done), by repeat (first | exact Drawn0.refl _ | apply Drawn0.step)⟩
    · rw [if_neg c3] at H
      have c3b0 : decide (a0 ≤ 122) = false := decide_eq_false c3
      clear c3
      by_cases c4 : a0 ≥ 48
      · rw [if_pos c4] at H
        have c4b0 : decide (48 ≤ a0) = true := decide_eq_true c4
        clear c4
        by_cases c5 : a0 ≤ 57
        · rw [if_pos c5] at H
          have c5b0 : decide (a0 ≤ 57) = true := decide_eq_true c5
          clear c5
          obtain rfl := Option.some.inj H
          go_enter Tryd.func95, Tryd.ntmps95
          go_wp2
          go_ret
          exact ⟨by first | rfl | (simp; done) | (simp [*]; done), by repeat (first | exact Drawn0.refl _ | apply Drawn0.step)⟩
        · rw [if_neg c5] at H
          have c5b0 : decide (a0 ≤ 57) = false := decide_eq_false c5
          clear c5
          by_cases c6 : a0 = 95
          · rw [if_pos c6] at H
            have c6b0 : (a0 == 95) = true := beq_iff_eq.mpr c6
            have c6b1 : (a0 != 95) = false := bne_eq_false_iff_eq.mpr c6
            clear c6
            obtain rfl := Option.some.inj H
            go_enter Tryd.func95, Tryd.ntmps95
            go_wp2
            go_ret
            exact ⟨by first | rfl | (simp; done) | (simp [*]; done), by repeat (first | exact Drawn0.refl _ | apply Drawn0.step)⟩
          · rw [if_neg c6] at H
            have c6b0 : (a0 == 95) = false := beq_eq_false_iff_ne.mpr c6
            have c6b1 : (a0 != 95) = true := bne_iff_ne.mpr c6
            by_cases c7 : a0 = 45
            · rw [if_pos c7] at H
              have c7b0 : (a0 == 45) = true := beq_iff_eq.mpr c7
              have c7b1 : (a0 != 45) = false := bne_eq_false_iff_eq.mpr c7
              clear c7
              obtain rfl := Option.some.inj H
              go_enter Tryd.func95, Tryd.ntmps95
              go_wp2
              go_ret
              exact ⟨by first | rfl | (simp; done) | (simp [*]; done), by repeat (first | exact Drawn0.refl _ | apply Drawn0.step)⟩
            · rw [if_neg c7] at H
              have c7b0 : (a0 == 45) = false := beq_eq_false_iff_ne.mpr c7
              have c7b1 : (a0 != 45) = true := bne_iff_ne.mpr c7
              obtain rfl := Option.some.inj H
              go_enter Tryd.func95, Tryd.ntmps95
              go_wp2
              go_ret
              exact ⟨by first | rfl | (simp; done) | (simp [*]; done), by repeat (first | exact Drawn0.refl _ | apply Drawn0.step)⟩
      · rw [if_neg c4] at H
        have c4b0 : decide (48 ≤ a0) = false := decide_eq_false c4
        clear c4
        by_cases c8 : a0 = 95
        · rw [if_pos c8] at H
          have c8b0 : (a0 == 95) = true := beq_iff_eq.mpr c8
          have c8b1 : (a0 != 95) = false := bne_eq_false_iff_eq.mpr c8
          clear c8
          obtain rfl := Option.some.inj H
          go_enter Tryd.func95, Tryd.ntmps95
          go_wp2
          go_ret
          exact ⟨by first | rfl | (simp; done) | (simp [*]; done), by repeat (first | exact Drawn0.refl _ | apply Drawn0.step)⟩
        · rw [if_neg c8] at H
          have c8b0 : (a0 == 95) = false := beq_eq_false_iff_ne.mpr c8
          have c8b1 : (a0 != 95) = true := bne_iff_ne.mpr c8
          by_cases c9 : a0 = 45
          · rw [if_pos c9] at H
            have c9b0 : (a0 == 45) = true := beq_iff_eq.mpr c9
            have c9b1 : (a0 != 45) = false := bne_eq_false_iff_eq.mpr c9
            clear c9
            obtain rfl := Option.some.inj H
            go_enter Tryd.func95, Tryd.ntmps95
            go_wp2
            go_ret
            exact ⟨by first | rfl | (simp; done) | (simp [*]; done), by repeat (first | exact Drawn0.refl _ | apply Drawn0.step)⟩
          · rw [if_neg c9] at H
            have c9b0 : (a0 == 45) = false := beq_eq_false_iff_ne.mpr c9
            have c9b1 : (a0 != 45) = true := bne_iff_ne.mpr c9
            obtain rfl := Option.some.inj H
            go_enter Tryd.func95, Tryd.ntmps95
            go_wp2
            go_ret
            exact ⟨by first | rfl | (simp; done) | (simp [*]; done), by repeat (first | exact Drawn0.refl _ | apply Drawn0.step)⟩
  · rw [if_neg c2] at H
    have c2b0 : decide (97 ≤ a0) = false := decide_eq_false c2
    clear c2
    by_cases c10 : a0 ≥ 48
    · rw [if_pos c10] at H
      have c10b0 : decide (48 ≤ a0) = true := decide_eq_true c10
      clear c10
      by_cases c11 : a0 ≤ 57
      · rw [if_pos c11] at H
        have c11b0 : decide (a0 ≤ 57) = true := decide_eq_true c11
        clear c11
        obtain rfl := Option.some.inj H
        go_enter Tryd.func95, Tryd.ntmps95
        go_wp2
        go_ret
        exact ⟨by first | rfl | (simp; done) | (simp [*]; done), by repeat (first | exact Drawn0.refl _ | apply Drawn0.step)⟩
      · rw [if_neg c11] at H
        have c11b0 : decide (a0 ≤ 57) = false := decide_eq_false c11
        clear c11
        by_cases c12 : a0 = 95
        · rw [if_pos c12] at H
          have c12b0 : (a0 == 95) = true := beq_iff_eq.mpr c12
          have c12b1 : (a0 != 95) = false := bne_eq_false_iff_eq.mpr c12
          clear c12
          obtain rfl := Option.some.inj H
          go_enter Tryd.func95, Tryd.ntmps95
          go_wp2
          go_ret
          exact ⟨by first | rfl | (simp; done) | (simp [*]; done), by repeat (first | exact Drawn0.refl _ | apply Drawn0.step)⟩
        · rw [if_neg c12] at H
          have c12b0 : (a0 == 95) = false := beq_eq_false_iff_ne.mpr c12
          have c12b1 : (a0 != 95) = true := bne_iff_ne.mpr c12
          by_cases c13 : a0 = 45
          · rw [if_pos c13] at H
            have c13b0 : (a0 == 45) = true := beq_iff_eq.mpr c13
            have c13b1 : (a0 != 45) = false := bne_eq_false_iff_eq.mpr c13
            clear c13
            obtain rfl := Option.some.inj H
            go_enter Tryd.func95, Tryd.ntmps95
            go_wp2
            go_ret
            exact ⟨by first | rfl | (simp; done) | (simp [*]; done), by repeat (first | exact Drawn0.refl _ | apply Drawn0.step)⟩
          · rw [if_neg c13] at H
            have c13b0 : (a0 == 45) = false := beq_eq_false_iff_ne.mpr c13
            have c13b1 : (a0 != 45) = true := bne_iff_ne.mpr c13
            obtain rfl := Option.some.inj H
            go_enter Tryd.func95, Tryd.ntmps95
            go_wp2
            go_ret
            exact ⟨by first | rfl | (simp; done) | (simp [*]; done), by repeat (first | exact Drawn0.refl _ | apply Drawn0.step)⟩
    · rw [if_neg c10] at H
      have c10b0 : decide (48 ≤ a0) = false := decide_eq_false c10
      clear c10
      by_cases c14 : a0 = 95
      · rw [if_pos c14] at H
        have c14b0 : (a0 == 95) = true := beq_iff_eq.mpr c14
        have c14b1 : (a0 != 95) = false := bne_eq_false_iff_eq.mpr c14
        clear c14
        obtain rfl := Option.some.inj H
        go_enter Tryd.func95, Tryd.ntmps95
        go_wp2
        go_ret
        exact ⟨by first | rfl | (simp; done) | (simp [*]; done), by repeat (first | exact Drawn0.refl _ | apply Drawn0.step)⟩
      · rw [if_neg c14] at H
        have c14b0 : (a0 == 95) = false := beq_eq_false_iff_ne.mpr c14
        have c14b1 : (a0 != 95) = true := bne_iff_ne.mpr c14
        by_cases c15 : a0 = 45
        · rw [if_pos c15] at H
          have c15b0 : (a0 == 45) = true := beq_iff_eq.mpr c15
          have c15b1 : (a0 != 45) = false := bne_eq_false_iff_eq.mpr c15
          clear c15
          obtain rfl := Option.some.inj H
          go_enter Tryd.func95, Tryd.ntmps95
          go_wp2
          go_ret
          exact ⟨by first | rfl | (simp; done) | (simp [*]; done), by repeat (first | exact Drawn0.refl _ | apply Drawn0.step)⟩
        · rw [if_neg c15] at H
          have c15b0 : (a0 == 45) = false := beq_eq_false_iff_ne.mpr c15
          have c15b1 : (a0 != 45) = true := bne_iff_ne.mpr c15
          obtain rfl := Option.some.inj H
          go_enter Tryd.func95, Tryd.ntmps95
          go_wp2
          go_ret
          exact ⟨by first | rfl | (simp; done) | (simp [*]; done), by repeat (first | exact Drawn0.refl _ | apply Drawn0.step)⟩

end Go.Proofs.YtjllbkeobibnkaaDoor.Q

namespace Go.Proofs.YtjllbkeobibnkaaDoor.Q
open Go.RowKit Go.Proofs.YtjllbkeobibnkaaDoorW.PrintWords Go.Proofs.YtjllbkeobibnkaaDoorW.PrintLast Go.Proofs.YtjllbkeobibnkaaDoorW.PrintMore
attribute [local go_sem] max2_int min2_int max_two min_two max_three min_three max_four min_four   -- for this text's walks alone
attribute [local go_sem ↓] Go.Proofs.YtjllbkeobibnkaaDoorK.isSome_setCell
set_option linter.unusedVariables false
set_option linter.unusedSimpArgs false

/-! ### aquiferref05_name: function 85 -/
def aquiferref05_name.l0 : Nat → ByteArray → Int → Int → Option (Int)
  | 0, _, _, _ => none
  | k + 1, x0, x3, x4 => if x4 < (x0.size : Int) then (if 0 ≤ x4 then (if (bt x0 x4) = 46 then (if x4 = 0 then (some 0) else (if x4 = (wrap64 ((x0.size : Int) - 1)) then (some 0) else (aquiferref05_name.l0 k x0 (wrap64 (x3 + 1)) (wrap64 (x4 + 1))))) else ((aquiferref05_sign.f (bt x0 x4)).bind fun t109 => (if t109 = true then (aquiferref05_name.l0 k x0 x3 (wrap64 (x4 + 1))) else (some 0)))) else (none)) else (if (x0.size : Int) = 0 then (some 0) else (if (x0.size : Int) > 24 then (some 0) else (if x3 > 1 then (some 0) else (some (wrap64 (1 + x3))))))
def aquiferref05_name.f (k : Nat) (a0 : ByteArray) : Option (Int) := aquiferref05_name.l0 k a0 0 0
theorem aquiferref05_name.mono_l : ∀ k, (∀ y0 y1 y2, LeO (aquiferref05_name.l0 k y0 y1 y2) (aquiferref05_name.l0 (k + 1) y0 y1 y2))
  | 0 => fun _ _ _ r h => by simp [aquiferref05_name.l0] at h
  | k + 1 => by
    have ih0 := aquiferref05_name.mono_l k
    · intro y0 y1 y2
      unfold aquiferref05_name.l0
      repeat' first
      | (with_reducible exact ih0 _ _ _)
      | (with_reducible exact LeO.refl _)
      | (with_reducible exact LeO.none _)
      | (with_reducible refine LeO.ite ?_ ?_)
      | (with_reducible refine LeO.bind ?_ (fun _ => ?_))
      | exact ih0 _ _ _
      | exact LeO.none _
      | refine LeO.ite ?_ ?_
      | refine LeO.bind ?_ (fun _ => ?_)
theorem aquiferref05_name.mono : ∀ a0 k, LeO (aquiferref05_name.f k a0) (aquiferref05_name.f (k + 1) a0) := by
  intro a0 k
  have ih0 := aquiferref05_name.mono_l k
  unfold aquiferref05_name.f
  repeat' first
      | (with_reducible exact ih0 _ _ _)
      | (with_reducible exact LeO.refl _)
      | (with_reducible exact LeO.none _)
      | (with_reducible refine LeO.ite ?_ ?_)
      | (with_reducible refine LeO.bind ?_ (fun _ => ?_))
      | exact ih0 _ _ _
      | exact LeO.none _
      | refine LeO.ite ?_ ?_
      | refine LeO.bind ?_ (fun _ => ?_)
set_option maxHeartbeats 8000000 in
set_option maxRecDepth 100000 in
theorem aquiferref05_name.calls (k : Nat) (a0 : ByteArray) (r : Int) (w : World) (h : aquiferref05_name.f k a0 = some r) :
    Calls Tryd.prog 85 #[.string a0] w fun e w' => e = .returned (.int .i64 r) ∧ Drawn0 w w' := by
  have H : (aquiferref05_name.l0 k a0 0 0) = some r := h
  clear h
  have H' := Aside0.mk H
  clear H
  go_enter Tryd.func85, Tryd.ntmps85
  go_wp2
  go_loopg [3, 4] k (fun kq v3 v4 w' => ∃ (x3_1 : Int) (x4_1 : Int), v3 = .int .i64 x3_1 ∧ v4 = .int .i64 x4_1 ∧ Aside0 (aquiferref05_name.l0 kq a0 x3_1 x4_1 = some r) ∧ Aside0 (kq ≤ k) ∧ Drawn0 w w')
  case atStart => exact ⟨(0), (0), (by first | rfl | (simp; done) | (simp [*]; done)), (by first | rfl | (simp; done) | (simp [*]; done)), H', ⟨Nat.le_refl _⟩, by repeat (first | exact Drawn0.refl _ | apply Drawn0.step)⟩
  case round =>
    clear H'
    obtain ⟨x3_1, x4_1, rfl, rfl, HA, HK1, ⟨m1, rfl⟩⟩ := hrel
    cases gk with
    | zero => exact absurd HA.out (by simp [aquiferref05_name.l0])
    | succ k1 =>
      have H := HA.out
      clear HA
      simp only [aquiferref05_name.l0] at H
      by_cases c2 : x4_1 < (a0.size : Int)
      · rw [if_pos c2] at H
        have c2b0 : decide (x4_1 < (a0.size : Int)) = true := decide_eq_true c2
        clear c2
        by_cases c3 : 0 ≤ x4_1
        · rw [if_pos c3] at H
          have c3b0 : decide (0 ≤ x4_1) = true := decide_eq_true c3
          clear c3
          by_cases c5 : (bt a0 x4_1) = 46
          · rw [if_pos c5] at H
            have c5b0 : ((bt a0 x4_1) == 46) = true := beq_iff_eq.mpr c5
            have c5b1 : ((bt a0 x4_1) != 46) = false := bne_eq_false_iff_eq.mpr c5
            clear c5
            by_cases c6 : x4_1 = 0
            · rw [if_pos c6] at H
              have c6b0 : (x4_1 == 0) = true := beq_iff_eq.mpr c6
              have c6b1 : (x4_1 != 0) = false := bne_eq_false_iff_eq.mpr c6
              clear c6
              obtain rfl := Option.some.inj H
              have p4 : 0 ≤ (x4_1 : Int) := of_decide_eq_true (by first | (with_reducible assumption) | assumption)
              have q4 : x4_1 < (a0.size : Int) := of_decide_eq_true (by first | (with_reducible assumption) | assumption)
              have hx4 := bt_at a0 x4_1
              replace p4 := eq_true p4
              replace q4 := eq_true q4
              go_wp2
              go_ret
              exact ⟨by first | rfl | (simp; done) | (simp [*]; done), by repeat (first | exact Drawn0.refl _ | apply Drawn0.step)⟩
            · rw [if_neg c6] at H
              have c6b0 : (x4_1 == 0) = false := beq_eq_false_iff_ne.mpr c6
              have c6b1 : (x4_1 != 0) = true := bne_iff_ne.mpr c6
              by_cases c7 : x4_1 = (wrap64 ((a0.size : Int) - 1))
              · rw [if_pos c7] at H
                have c7b0 : (x4_1 == (wrap64 ((a0.size : Int) - 1))) = true := beq_iff_eq.mpr c7
                have c7b1 : (x4_1 != (wrap64 ((a0.size : Int) - 1))) = false := bne_eq_false_iff_eq.mpr c7
                clear c7
                obtain rfl := Option.some.inj H
                have p4 : 0 ≤ (x4_1 : Int) := of_decide_eq_true (by first | (with_reducible assumption) | assumption)
                have q4 : x4_1 < (a0.size : Int) := of_decide_eq_true (by first | (with_reducible assumption) | assumption)
                have hx4 := bt_at a0 x4_1
                replace p4 := eq_true p4
                replace q4 := eq_true q4
                go_wp2
                go_ret
                exact ⟨by first | rfl | (simp; done) | (simp [*]; done), by repeat (first | exact Drawn0.refl _ | apply Drawn0.step)⟩
              · rw [if_neg c7] at H
                have c7b0 : (x4_1 == (wrap64 ((a0.size : Int) - 1))) = false := beq_eq_false_iff_ne.mpr c7
                have c7b1 : (x4_1 != (wrap64 ((a0.size : Int) - 1))) = true := bne_iff_ne.mpr c7
                have H' := Aside0.mk H
                clear H
                have p4 : 0 ≤ (x4_1 : Int) := of_decide_eq_true (by first | (with_reducible assumption) | assumption)
                have q4 : x4_1 < (a0.size : Int) := of_decide_eq_true (by first | (with_reducible assumption) | assumption)
                have hx4 := bt_at a0 x4_1
                replace p4 := eq_true p4
                replace q4 := eq_true q4
                go_wp2
                go_roundg k1
                case measure => have := HK1.out; omega
                case rel => exact ⟨(wrap64 (x3_1 + 1)), (wrap64 (x4_1 + 1)), (by first | rfl | (simp; done) | (simp [*]; done)), (by first | rfl | (simp; done) | (simp [*]; done)), H', ⟨by have := HK1.out; omega⟩, by repeat (first | exact Drawn0.refl _ | apply Drawn0.step)⟩
          · rw [if_neg c5] at H
            have c5b0 : ((bt a0 x4_1) == 46) = false := beq_eq_false_iff_ne.mpr c5
            have c5b1 : ((bt a0 x4_1) != 46) = true := bne_iff_ne.mpr c5
            replace H := Option.bind_eq_some_iff.mp H
            obtain ⟨t109, A90, H⟩ := H
            replace H : (if t109 = true then (aquiferref05_name.l0 k1 a0 x3_1 (wrap64 (x4_1 + 1))) else (some 0)) = some r := H
            have A9 := Aside0.mk A90
            clear A90
            by_cases c10 : t109 = true
            · subst c10
              have H1 : (aquiferref05_name.l0 k1 a0 x3_1 (wrap64 (x4_1 + 1))) = some r := by rw [if_pos rfl] at H; exact H
              clear H
              have H := H1
              clear H1
              have H' := Aside0.mk H
              clear H
              have p4 : 0 ≤ (x4_1 : Int) := of_decide_eq_true (by first | (with_reducible assumption) | assumption)
              have q4 : x4_1 < (a0.size : Int) := of_decide_eq_true (by first | (with_reducible assumption) | assumption)
              have hx4 := bt_at a0 x4_1
              replace p4 := eq_true p4
              replace q4 := eq_true q4
              have p8 : 0 ≤ (x4_1 : Int) := of_decide_eq_true (by first | (with_reducible assumption) | assumption)
              have q8 : x4_1 < (a0.size : Int) := of_decide_eq_true (by first | (with_reducible assumption) | assumption)
              have hx8 := bt_at a0 x4_1
              replace p8 := eq_true p8
              replace q8 := eq_true q8
              go_wp2_with (first | ((with_reducible refine gate_callee (f := 95) rfl ?_); refine goesL_ (some 29) rfl rfl Tryd.func95 (by kernel_rfl) rfl #[.int .u8 (bt a0 x4_1)] rfl (by (try simp only [List.map_toArray, List.map_cons, List.map_nil]); first | done | rfl | (simp only [List.length_drop, List.length_take]; rfl)) ?_; (with_reducible refine (aquiferref05_sign.calls (bt a0 x4_1) true _ A9.out).mono ?_); rintro e w' ⟨rfl, ⟨nd, rfl⟩⟩; refine ⟨_, rfl, ?_⟩))
              go_roundg k1
              case measure => have := HK1.out; omega
              case rel => exact ⟨(x3_1), (wrap64 (x4_1 + 1)), (by first | rfl | (simp; done) | (simp [*]; done)), (by first | rfl | (simp; done) | (simp [*]; done)), H', ⟨by have := HK1.out; omega⟩, by repeat (first | exact Drawn0.refl _ | apply Drawn0.step)⟩
            · replace c10 := Bool.eq_false_iff.mpr c10
              subst c10
              have H1 : (some 0) = some r := by rw [if_neg (show ¬ (false = true) by decide)] at H; exact H
              clear H
              have H := H1
              clear H1
              obtain rfl := Option.some.inj H
              have p4 : 0 ≤ (x4_1 : Int) := of_decide_eq_true (by first | (with_reducible assumption) | assumption)
              have q4 : x4_1 < (a0.size : Int) := of_decide_eq_true (by first | (with_reducible assumption) | assumption)
              have hx4 := bt_at a0 x4_1
              replace p4 := eq_true p4
              replace q4 := eq_true q4
              have p8 : 0 ≤ (x4_1 : Int) := of_decide_eq_true (by first | (with_reducible assumption) | assumption)
              have q8 : x4_1 < (a0.size : Int) := of_decide_eq_true (by first | (with_reducible assumption) | assumption)
              have hx8 := bt_at a0 x4_1
              replace p8 := eq_true p8
              replace q8 := eq_true q8
              go_wp2_with (first | ((with_reducible refine gate_callee (f := 95) rfl ?_); refine goesL_ (some 29) rfl rfl Tryd.func95 (by kernel_rfl) rfl #[.int .u8 (bt a0 x4_1)] rfl (by (try simp only [List.map_toArray, List.map_cons, List.map_nil]); first | done | rfl | (simp only [List.length_drop, List.length_take]; rfl)) ?_; (with_reducible refine (aquiferref05_sign.calls (bt a0 x4_1) false _ A9.out).mono ?_); rintro e w' ⟨rfl, ⟨nd, rfl⟩⟩; refine ⟨_, rfl, ?_⟩))
              go_ret
              exact ⟨by first | rfl | (simp; done) | (simp [*]; done), by repeat (first | exact Drawn0.refl _ | apply Drawn0.step)⟩
        · rw [if_neg c3] at H
          exact absurd H (by simp)
      · rw [if_neg c2] at H
        have c2b0 : decide (x4_1 < (a0.size : Int)) = false := decide_eq_false c2
        clear c2
        by_cases c11 : (a0.size : Int) = 0
        · rw [if_pos c11] at H
          have c11b0 : ((a0.size : Int) == 0) = true := beq_iff_eq.mpr c11
          have c11b1 : ((a0.size : Int) != 0) = false := bne_eq_false_iff_eq.mpr c11
          clear c11
          obtain rfl := Option.some.inj H
          go_wp2
          go_ret
          exact ⟨by first | rfl | (simp; done) | (simp [*]; done), by repeat (first | exact Drawn0.refl _ | apply Drawn0.step)⟩
        · rw [if_neg c11] at H
          have c11b0 : ((a0.size : Int) == 0) = false := beq_eq_false_iff_ne.mpr c11
          have c11b1 : ((a0.size : Int) != 0) = true := bne_iff_ne.mpr c11
          by_cases c12 : (a0.size : Int) > 24
          · rw [if_pos c12] at H
            have c12b0 : decide (24 < (a0.size : Int)) = true := decide_eq_true c12
            have c12b1 : decide (24 < a0.size) = true := decide_eq_true (by omega)
            clear c12
            obtain rfl := Option.some.inj H
            go_wp2
            go_ret
            exact ⟨by first | rfl | (simp; done) | (simp [*]; done), by repeat (first | exact Drawn0.refl _ | apply Drawn0.step)⟩
          · rw [if_neg c12] at H
            have c12b0 : decide (24 < (a0.size : Int)) = false := decide_eq_false c12
            have c12b1 : decide (24 < a0.size) = false := decide_eq_false (by omega)
            clear c12
            by_cases c13 : x3_1 > 1
            · rw [if_pos c13] at H
              have c13b0 : decide (1 < x3_1) = true := decide_eq_true c13
              clear c13
              obtain rfl := Option.some.inj H
              go_wp2
              go_ret
              exact ⟨by first | rfl | (simp; done) | (simp [*]; done), by repeat (first | exact Drawn0.refl _ | apply Drawn0.step)⟩
            · rw [if_neg c13] at H
              have c13b0 : decide (1 < x3_1) = false := decide_eq_false c13
              clear c13
              obtain rfl := Option.some.inj H
              go_wp2
              go_ret
              exact ⟨by first | rfl | (simp; done) | (simp [*]; done), by repeat (first | exact Drawn0.refl _ | apply Drawn0.step)⟩

end Go.Proofs.YtjllbkeobibnkaaDoor.Q

namespace Go.Proofs.YtjllbkeobibnkaaDoor.Q
open Go.RowKit Go.Proofs.YtjllbkeobibnkaaDoorW.PrintWords Go.Proofs.YtjllbkeobibnkaaDoorW.PrintLast Go.Proofs.YtjllbkeobibnkaaDoorW.PrintMore Go.Proofs.YtjllbkeobibnkaaDoorK
attribute [local go_sem] max2_int min2_int max_two min_two max_three min_three max_four min_four   -- for this text's walks alone
attribute [local go_sem ↓] Go.Proofs.YtjllbkeobibnkaaDoorK.isSome_setCell
set_option linter.unusedVariables false
set_option linter.unusedSimpArgs false

/-! ### aquiferref05_Kind: function 66 -/
def aquiferref05_Kind.l0 : Nat → List ByteArray → Int → Option (Int × Int)
  | 0, _, _ => none
  | k + 1, x4, x5 => if x5 < (x4.length : Int) then (if 0 ≤ x5 then ((aquiferref05_name.f k (rdOf ByteArray.empty x4 x5)).bind fun t116 => (if t116 = 0 then (some (0, 18)) else ((aquiferref05_name.f k (rdOf ByteArray.empty x4 x5)).bind fun t118 => (if t118 = 2 then (if (wrap64 (x5 + 1)) < (x4.length : Int) then (some (0, 18)) else (aquiferref05_Kind.l0 k x4 (wrap64 (x5 + 1)))) else (aquiferref05_Kind.l0 k x4 (wrap64 (x5 + 1))))))) else (none)) else (if (x4.length : Int) > 8 then (some (0, 7)) else (if 0 ≤ (wrap64 ((x4.length : Int) - 1)) then (if (wrap64 ((x4.length : Int) - 1)) < (x4.length : Int) then ((aquiferref05_name.f k (rdOf ByteArray.empty x4 (wrap64 ((x4.length : Int) - 1)))).bind fun t114 => (some (t114, 0))) else (none)) else (none)))
def aquiferref05_Kind.f (k : Nat) (a0 : ByteArray) : Option (Int × Int) := if (a0.size : Int) > 96 then (some (0, 3)) else (if a0.toList = ([] : List UInt8) then (some (1, 0)) else ((aquiferref05_Names.f k a0).bind fun t110 => (aquiferref05_Kind.l0 k t110 0)))
theorem aquiferref05_Kind.mono_l : ∀ k, (∀ y0 y1, LeO (aquiferref05_Kind.l0 k y0 y1) (aquiferref05_Kind.l0 (k + 1) y0 y1))
  | 0 => fun _ _ r h => by simp [aquiferref05_Kind.l0] at h
  | k + 1 => by
    have ih0 := aquiferref05_Kind.mono_l k
    · intro y0 y1
      unfold aquiferref05_Kind.l0
      repeat' first
      | (with_reducible exact ih0 _ _)
      | (with_reducible exact aquiferref05_Names.mono _ _)
      | (with_reducible exact aquiferref05_name.mono _ _)
      | (with_reducible exact LeO.refl _)
      | (with_reducible exact LeO.none _)
      | (with_reducible refine LeO.ite ?_ ?_)
      | (with_reducible refine LeO.bind ?_ (fun _ => ?_))
      | exact ih0 _ _
      | exact aquiferref05_Names.mono _ _
      | exact aquiferref05_name.mono _ _
      | exact LeO.none _
      | refine LeO.ite ?_ ?_
      | refine LeO.bind ?_ (fun _ => ?_)
theorem aquiferref05_Kind.mono : ∀ a0 k, LeO (aquiferref05_Kind.f k a0) (aquiferref05_Kind.f (k + 1) a0) := by
  intro a0 k
  have ih0 := aquiferref05_Kind.mono_l k
  unfold aquiferref05_Kind.f
  repeat' first
      | (with_reducible exact ih0 _ _)
      | (with_reducible exact aquiferref05_Names.mono _ _)
      | (with_reducible exact aquiferref05_name.mono _ _)
      | (with_reducible exact LeO.refl _)
      | (with_reducible exact LeO.none _)
      | (with_reducible refine LeO.ite ?_ ?_)
      | (with_reducible refine LeO.bind ?_ (fun _ => ?_))
      | exact ih0 _ _
      | exact aquiferref05_Names.mono _ _
      | exact aquiferref05_name.mono _ _
      | exact LeO.none _
      | refine LeO.ite ?_ ?_
      | refine LeO.bind ?_ (fun _ => ?_)
set_option maxHeartbeats 8000000 in
set_option maxRecDepth 100000 in
theorem aquiferref05_Kind.calls (k : Nat) (a0 : ByteArray) (r1 : Int) (r2 : Int) (w : World) (h : aquiferref05_Kind.f k a0 = some (r1, r2)) :
    Calls Tryd.prog 66 #[.string a0] w fun e w' => e = .returned (.tuple #[.int .i64 r1, .int .i64 r2]) ∧ Below w.heap.size w w' := by
  have HB := Aside0.mk (Below.refl w.heap.size w)
  have H : (if (a0.size : Int) > 96 then (some (0, 3)) else (if a0.toList = ([] : List UInt8) then (some (1, 0)) else ((aquiferref05_Names.f k a0).bind fun t110 => (aquiferref05_Kind.l0 k t110 0)))) = some (r1, r2) := h
  clear h
  by_cases c2 : (a0.size : Int) > 96
  · rw [if_pos c2] at H
    have c2b0 : decide (96 < (a0.size : Int)) = true := decide_eq_true c2
    have c2b1 : decide (96 < a0.size) = true := decide_eq_true (by omega)
    clear c2
    simp only [Option.some.injEq, Prod.mk.injEq] at H
    obtain ⟨rfl, rfl⟩ := H
    go_enter Tryd.func66, Tryd.ntmps66
    go_wp2
    go_ret2
    exact ⟨by first | rfl | (simp [errW_none, errW_some] <;> rfl) | (simp [*, errW_none, errW_some] <;> rfl), belU HB.out⟩
  · rw [if_neg c2] at H
    have c2b0 : decide (96 < (a0.size : Int)) = false := decide_eq_false c2
    have c2b1 : decide (96 < a0.size) = false := decide_eq_false (by omega)
    clear c2
    by_cases c3 : a0.toList = ([] : List UInt8)
    · rw [if_pos c3] at H
      have c3b0 : (a0.toList == ([] : List UInt8)) = true := beq_iff_eq.mpr c3
      have c3b1 : (a0.toList != ([] : List UInt8)) = false := bne_eq_false_iff_eq.mpr c3
      clear c3
      simp only [Option.some.injEq, Prod.mk.injEq] at H
      obtain ⟨rfl, rfl⟩ := H
      go_enter Tryd.func66, Tryd.ntmps66
      go_wp2
      go_ret2
      exact ⟨by first | rfl | (simp [errW_none, errW_some] <;> rfl) | (simp [*, errW_none, errW_some] <;> rfl), belU HB.out⟩
    · rw [if_neg c3] at H
      have c3b0 : (a0.toList == ([] : List UInt8)) = false := beq_eq_false_iff_ne.mpr c3
      have c3b1 : (a0.toList != ([] : List UInt8)) = true := bne_iff_ne.mpr c3
      replace H := Option.bind_eq_some_iff.mp H
      obtain ⟨t110, A40, H⟩ := H
      replace H : (aquiferref05_Kind.l0 k t110 0) = some (r1, r2) := H
      have A4 := Aside0.mk A40
      clear A40
      have H' := Aside0.mk H
      clear H
      go_enter Tryd.func66, Tryd.ntmps66
      go_wp2_with (first | ((with_reducible refine gate_callee (f := 84) rfl ?_); refine goesL_ (some 12) rfl rfl Tryd.func84 (by kernel_rfl) rfl #[.string a0] rfl (by (try simp only [List.map_toArray, List.map_cons, List.map_nil]); first | done | rfl | (simp only [List.length_drop, List.length_take]; rfl)) ?_; (with_reducible refine (aquiferref05_Names.calls k a0 t110 _ A4.out).mono ?_); rintro e w5 ⟨v111, rfl, ho0, hb⟩; refine ⟨_, rfl, ?_⟩; have n0_ := Aside0.mk (Kd.R_lower ho0 (sizU HB.out)); have n1_ := Aside0.mk (below_step (belU HB.out) hb); clear HB; have HO112 := n0_; have HB := n1_; clear n0_ n1_; (try clear hb); (try clear hb2); (try clear hk); (try clear hi); (try clear ho0)))
      go_loopg [5] k (fun kq v5 w' => ∃ (x5_1 : Int), v5 = .int .i64 x5_1 ∧ Aside0 (aquiferref05_Kind.l0 kq t110 x5_1 = some (r1, r2)) ∧ Aside0 (kq ≤ k) ∧ Aside0 (Kd.R Kd.string 9 w' w.heap.size (fun _ => True) v111 t110) ∧ Aside0 (Below w.heap.size w w'))
      case atStart => exact ⟨(0), (by first | rfl | (simp; done) | (simp [*]; done)), H', ⟨Nat.le_refl _⟩, ⟨RU HO112.out⟩, ⟨belU HB.out⟩⟩
      case round =>
        clear H'
        try clear c2
        try clear c2b0
        try clear c2b1
        try clear p2
        try clear c3
        try clear c3b0
        try clear c3b1
        obtain ⟨x5_1, rfl, HA, HK1, HO_4, HB⟩ := hrel
        cases gk with
        | zero => exact absurd HA.out (by simp [aquiferref05_Kind.l0])
        | succ k1 =>
          have H := HA.out
          clear HA
          simp only [aquiferref05_Kind.l0] at H
          by_cases c6 : x5_1 < (t110.length : Int)
          · rw [if_pos c6] at H
            have c6b0 : decide (x5_1 < (t110.length : Int)) = true := decide_eq_true c6
            clear c6
            by_cases c7 : 0 ≤ x5_1
            · rw [if_pos c7] at H
              have c7b0 : decide (0 ≤ x5_1) = true := decide_eq_true c7
              clear c7
              replace H := Option.bind_eq_some_iff.mp H
              obtain ⟨t116, A80, H⟩ := H
              replace H : (if t116 = 0 then (some (0, 18)) else ((aquiferref05_name.f k1 (rdOf ByteArray.empty t110 x5_1)).bind fun t118 => (if t118 = 2 then (if (wrap64 (x5_1 + 1)) < (t110.length : Int) then (some (0, 18)) else (aquiferref05_Kind.l0 k1 t110 (wrap64 (x5_1 + 1)))) else (aquiferref05_Kind.l0 k1 t110 (wrap64 (x5_1 + 1)))))) = some (r1, r2) := H
              have A8 := Aside0.mk A80
              clear A80
              by_cases c9 : t116 = 0
              · rw [if_pos c9] at H
                have c9b0 : (t116 == 0) = true := beq_iff_eq.mpr c9
                have c9b1 : (t116 != 0) = false := bne_eq_false_iff_eq.mpr c9
                clear c9
                simp only [Option.some.injEq, Prod.mk.injEq] at H
                obtain ⟨rfl, rfl⟩ := H
                obtain ⟨Ao10, co10, eo10⟩ := Kd.R_slice HO_4.out
                subst eo10
                have p115 : 0 ≤ (x5_1 : Int) := of_decide_eq_true (by first | (with_reducible assumption) | assumption)
                have q115 : x5_1 < (t110.length : Int) := of_decide_eq_true (by first | (with_reducible assumption) | assumption)
                obtain ⟨ad115, e115, hx115_0⟩ := Kd.at_string (Kd.R_reads' HO_4.out).2.2 x5_1 p115 q115
                cases e115
                replace p115 := eq_true p115
                replace q115 := eq_true q115
                go_wp2_with (first | ((with_reducible refine gate_callee (f := 85) rfl ?_); refine goesL_ (some 23) rfl rfl Tryd.func85 (by kernel_rfl) rfl #[.string (rdOf ByteArray.empty t110 x5_1)] rfl (by (try simp only [List.map_toArray, List.map_cons, List.map_nil]); first | done | rfl | (simp only [List.length_drop, List.length_take]; rfl)) ?_; (with_reducible refine (aquiferref05_name.calls k1 (rdOf ByteArray.empty t110 x5_1) t116 _ A8.out).mono ?_); rintro e w' ⟨rfl, ⟨nd, rfl⟩⟩; refine ⟨_, rfl, ?_⟩))
                go_ret2
                exact ⟨by first | rfl | (simp [errW_none, errW_some] <;> rfl) | (simp [*, errW_none, errW_some] <;> rfl), belU HB.out⟩
              · rw [if_neg c9] at H
                have c9b0 : (t116 == 0) = false := beq_eq_false_iff_ne.mpr c9
                have c9b1 : (t116 != 0) = true := bne_iff_ne.mpr c9
                replace H := Option.bind_eq_some_iff.mp H
                obtain ⟨t118, A110, H⟩ := H
                replace H : (if t118 = 2 then (if (wrap64 (x5_1 + 1)) < (t110.length : Int) then (some (0, 18)) else (aquiferref05_Kind.l0 k1 t110 (wrap64 (x5_1 + 1)))) else (aquiferref05_Kind.l0 k1 t110 (wrap64 (x5_1 + 1)))) = some (r1, r2) := H
                have A11 := Aside0.mk A110
                clear A110
                by_cases c12 : t118 = 2
                · rw [if_pos c12] at H
                  have c12b0 : (t118 == 2) = true := beq_iff_eq.mpr c12
                  have c12b1 : (t118 != 2) = false := bne_eq_false_iff_eq.mpr c12
                  clear c12
                  by_cases c13 : (wrap64 (x5_1 + 1)) < (t110.length : Int)
                  · rw [if_pos c13] at H
                    have c13b0 : decide ((wrap64 (x5_1 + 1)) < (t110.length : Int)) = true := decide_eq_true c13
                    clear c13
                    simp only [Option.some.injEq, Prod.mk.injEq] at H
                    obtain ⟨rfl, rfl⟩ := H
                    obtain ⟨Ao14, co14, eo14⟩ := Kd.R_slice HO_4.out
                    subst eo14
                    have p115 : 0 ≤ (x5_1 : Int) := of_decide_eq_true (by first | (with_reducible assumption) | assumption)
                    have q115 : x5_1 < (t110.length : Int) := of_decide_eq_true (by first | (with_reducible assumption) | assumption)
                    obtain ⟨ad115, e115, hx115_0⟩ := Kd.at_string (Kd.R_reads' HO_4.out).2.2 x5_1 p115 q115
                    cases e115
                    replace p115 := eq_true p115
                    replace q115 := eq_true q115
                    go_wp2_with (first | ((with_reducible refine gate_callee (f := 85) rfl ?_); refine goesL_ (some 23) rfl rfl Tryd.func85 (by kernel_rfl) rfl #[.string (rdOf ByteArray.empty t110 x5_1)] rfl (by (try simp only [List.map_toArray, List.map_cons, List.map_nil]); first | done | rfl | (simp only [List.length_drop, List.length_take]; rfl)) ?_; (with_reducible refine (aquiferref05_name.calls k1 (rdOf ByteArray.empty t110 x5_1) t116 _ A8.out).mono ?_); rintro e w' ⟨rfl, ⟨nd, rfl⟩⟩; refine ⟨_, rfl, ?_⟩; have p117 : 0 ≤ (x5_1 : Int) := of_decide_eq_true (by first | (with_reducible assumption) | assumption); have q117 : x5_1 < (t110.length : Int) := of_decide_eq_true (by first | (with_reducible assumption) | assumption); obtain ⟨ad117, e117, hx117_0⟩ := Kd.at_string (Kd.R_reads' HO_4.out).2.2 x5_1 p117 q117; obtain rfl : ad115 = ad117 := (by injection e117); replace p117 := eq_true p117; replace q117 := eq_true q117) | (go_at_call 85; (with_reducible refine (aquiferref05_name.calls k1 (rdOf ByteArray.empty t110 x5_1) t118 _ A11.out).mono ?_); rintro e w' ⟨rfl, ⟨nd, rfl⟩⟩))
                    go_ret2
                    exact ⟨by first | rfl | (simp [errW_none, errW_some] <;> rfl) | (simp [*, errW_none, errW_some] <;> rfl), belU HB.out⟩
                  · rw [if_neg c13] at H
                    have c13b0 : decide ((wrap64 (x5_1 + 1)) < (t110.length : Int)) = false := decide_eq_false c13
                    clear c13
                    have H' := Aside0.mk H
                    clear H
                    obtain ⟨Ao15, co15, eo15⟩ := Kd.R_slice HO_4.out
                    subst eo15
                    have p115 : 0 ≤ (x5_1 : Int) := of_decide_eq_true (by first | (with_reducible assumption) | assumption)
                    have q115 : x5_1 < (t110.length : Int) := of_decide_eq_true (by first | (with_reducible assumption) | assumption)
                    obtain ⟨ad115, e115, hx115_0⟩ := Kd.at_string (Kd.R_reads' HO_4.out).2.2 x5_1 p115 q115
                    cases e115
                    replace p115 := eq_true p115
                    replace q115 := eq_true q115
                    go_wp2_with (first | ((with_reducible refine gate_callee (f := 85) rfl ?_); refine goesL_ (some 23) rfl rfl Tryd.func85 (by kernel_rfl) rfl #[.string (rdOf ByteArray.empty t110 x5_1)] rfl (by (try simp only [List.map_toArray, List.map_cons, List.map_nil]); first | done | rfl | (simp only [List.length_drop, List.length_take]; rfl)) ?_; (with_reducible refine (aquiferref05_name.calls k1 (rdOf ByteArray.empty t110 x5_1) t116 _ A8.out).mono ?_); rintro e w' ⟨rfl, ⟨nd, rfl⟩⟩; refine ⟨_, rfl, ?_⟩; have p117 : 0 ≤ (x5_1 : Int) := of_decide_eq_true (by first | (with_reducible assumption) | assumption); have q117 : x5_1 < (t110.length : Int) := of_decide_eq_true (by first | (with_reducible assumption) | assumption); obtain ⟨ad117, e117, hx117_0⟩ := Kd.at_string (Kd.R_reads' HO_4.out).2.2 x5_1 p117 q117; obtain rfl : ad115 = ad117 := (by injection e117); replace p117 := eq_true p117; replace q117 := eq_true q117) | (go_at_call 85; (with_reducible refine (aquiferref05_name.calls k1 (rdOf ByteArray.empty t110 x5_1) t118 _ A11.out).mono ?_); rintro e w' ⟨rfl, ⟨nd, rfl⟩⟩))
                    go_roundg k1
                    case measure => have := HK1.out; omega
                    case rel => exact ⟨(wrap64 (x5_1 + 1)), (by first | rfl | (simp; done) | (simp [*]; done)), H', ⟨by have := HK1.out; omega⟩, ⟨RU HO_4.out⟩, ⟨belU HB.out⟩⟩
                · rw [if_neg c12] at H
                  have c12b0 : (t118 == 2) = false := beq_eq_false_iff_ne.mpr c12
                  have c12b1 : (t118 != 2) = true := bne_iff_ne.mpr c12
                  have H' := Aside0.mk H
                  clear H
                  obtain ⟨Ao16, co16, eo16⟩ := Kd.R_slice HO_4.out
                  subst eo16
                  have p115 : 0 ≤ (x5_1 : Int) := of_decide_eq_true (by first | (with_reducible assumption) | assumption)
                  have q115 : x5_1 < (t110.length : Int) := of_decide_eq_true (by first | (with_reducible assumption) | assumption)
                  obtain ⟨ad115, e115, hx115_0⟩ := Kd.at_string (Kd.R_reads' HO_4.out).2.2 x5_1 p115 q115
                  cases e115
                  replace p115 := eq_true p115
                  replace q115 := eq_true q115
                  go_wp2_with (first | ((with_reducible refine gate_callee (f := 85) rfl ?_); refine goesL_ (some 23) rfl rfl Tryd.func85 (by kernel_rfl) rfl #[.string (rdOf ByteArray.empty t110 x5_1)] rfl (by (try simp only [List.map_toArray, List.map_cons, List.map_nil]); first | done | rfl | (simp only [List.length_drop, List.length_take]; rfl)) ?_; (with_reducible refine (aquiferref05_name.calls k1 (rdOf ByteArray.empty t110 x5_1) t116 _ A8.out).mono ?_); rintro e w' ⟨rfl, ⟨nd, rfl⟩⟩; refine ⟨_, rfl, ?_⟩; have p117 : 0 ≤ (x5_1 : Int) := of_decide_eq_true (by first | (with_reducible assumption) | assumption); have q117 : x5_1 < (t110.length : Int) := of_decide_eq_true (by first | (with_reducible assumption) | assumption); obtain ⟨ad117, e117, hx117_0⟩ := Kd.at_string (Kd.R_reads' HO_4.out).2.2 x5_1 p117 q117; obtain rfl : ad115 = ad117 := (by injection e117); replace p117 := eq_true p117; replace q117 := eq_true q117) | (go_at_call 85; (with_reducible refine (aquiferref05_name.calls k1 (rdOf ByteArray.empty t110 x5_1) t118 _ A11.out).mono ?_); rintro e w' ⟨rfl, ⟨nd, rfl⟩⟩))
                  go_roundg k1
                  case measure => have := HK1.out; omega
                  case rel => exact ⟨(wrap64 (x5_1 + 1)), (by first | rfl | (simp; done) | (simp [*]; done)), H', ⟨by have := HK1.out; omega⟩, ⟨RU HO_4.out⟩, ⟨belU HB.out⟩⟩
            · rw [if_neg c7] at H
              exact absurd H (by simp)
          · rw [if_neg c6] at H
            have c6b0 : decide (x5_1 < (t110.length : Int)) = false := decide_eq_false c6
            clear c6
            by_cases c17 : (t110.length : Int) > 8
            · rw [if_pos c17] at H
              have c17b0 : decide (8 < (t110.length : Int)) = true := decide_eq_true c17
              have c17b1 : decide (8 < t110.length) = true := decide_eq_true (by omega)
              clear c17
              simp only [Option.some.injEq, Prod.mk.injEq] at H
              obtain ⟨rfl, rfl⟩ := H
              obtain ⟨Ao18, co18, eo18⟩ := Kd.R_slice HO_4.out
              subst eo18
              go_wp2
              go_ret2
              exact ⟨by first | rfl | (simp [errW_none, errW_some] <;> rfl) | (simp [*, errW_none, errW_some] <;> rfl), belU HB.out⟩
            · rw [if_neg c17] at H
              have c17b0 : decide (8 < (t110.length : Int)) = false := decide_eq_false c17
              have c17b1 : decide (8 < t110.length) = false := decide_eq_false (by omega)
              clear c17
              obtain ⟨ji19, hji19⟩ : ∃ j_ : Int, (wrap64 ((t110.length : Int) - 1)) = j_ := ⟨_, rfl⟩
              replace H : (if 0 ≤ (ji19) then (if (ji19) < (t110.length : Int) then ((aquiferref05_name.f k1 (rdOf ByteArray.empty t110 (ji19))).bind fun t114 => (some (t114, 0))) else (none)) else (none)) = some (r1, r2) := by first | (rw [hji19] at H; exact H) | (simp only [hji19] at H ⊢; exact H)
              have hji19w : (IntKind.i64.wrap ((t110.length : Int) - 1)) = ji19 := (i64_w _).trans hji19
              by_cases c20 : 0 ≤ (ji19)
              · rw [if_pos c20] at H
                have c20b0 : decide (0 ≤ (ji19)) = true := decide_eq_true c20
                clear c20
                by_cases c21 : (ji19) < (t110.length : Int)
                · rw [if_pos c21] at H
                  have c21b0 : decide ((ji19) < (t110.length : Int)) = true := decide_eq_true c21
                  clear c21
                  replace H := Option.bind_eq_some_iff.mp H
                  obtain ⟨t114, A220, H⟩ := H
                  replace H : (some (t114, 0)) = some (r1, r2) := H
                  have A22 := Aside0.mk A220
                  clear A220
                  simp only [Option.some.injEq, Prod.mk.injEq] at H
                  obtain ⟨rfl, rfl⟩ := H
                  obtain ⟨Ao23, co23, eo23⟩ := Kd.R_slice HO_4.out
                  subst eo23
                  have p113 : 0 ≤ ((ji19) : Int) := of_decide_eq_true (by first | (with_reducible assumption) | assumption)
                  have q113 : (ji19) < (t110.length : Int) := of_decide_eq_true (by first | (with_reducible assumption) | assumption)
                  obtain ⟨ad113, e113, hx113_0⟩ := Kd.at_string (Kd.R_reads' HO_4.out).2.2 (ji19) p113 q113
                  cases e113
                  replace p113 := eq_true p113
                  replace q113 := eq_true q113
                  go_wp2_with (first | ((with_reducible refine gate_callee (f := 85) rfl ?_); refine goesL_ (some 49) rfl rfl Tryd.func85 (by kernel_rfl) rfl #[.string (rdOf ByteArray.empty t110 (ji19))] rfl (by (try simp only [List.map_toArray, List.map_cons, List.map_nil]); first | done | (simp only [hji19]; rfl) | rfl | (simp only [List.length_drop, List.length_take]; rfl)) ?_; (with_reducible refine (aquiferref05_name.calls k1 (rdOf ByteArray.empty t110 (ji19)) t114 _ A22.out).mono ?_); rintro e w' ⟨rfl, ⟨nd, rfl⟩⟩; refine ⟨_, rfl, ?_⟩))
                  go_ret2
                  exact ⟨by first | rfl | (simp [errW_none, errW_some] <;> rfl) | (simp only [← hji19]; first | rfl | (simp [errW_none, errW_some] <;> rfl)) | (simp [*, errW_none, errW_some] <;> rfl), belU HB.out⟩
                · rw [if_neg c21] at H
                  exact absurd H (by simp)
              · rw [if_neg c20] at H
                exact absurd H (by simp)

end Go.Proofs.YtjllbkeobibnkaaDoor.Q

namespace Go.Proofs.YtjllbkeobibnkaaDoor.Q
open Go.RowKit Go.Proofs.YtjllbkeobibnkaaDoorW.PrintWords Go.Proofs.YtjllbkeobibnkaaDoorW.PrintLast Go.Proofs.YtjllbkeobibnkaaDoorW.PrintMore Go.Proofs.YtjllbkeobibnkaaDoorK
attribute [local go_sem] max2_int min2_int max_two min_two max_three min_three max_four min_four   -- for this text's walks alone
attribute [local go_sem ↓] Go.Proofs.YtjllbkeobibnkaaDoorK.isSome_setCell
set_option linter.unusedVariables false
set_option linter.unusedSimpArgs false

/-! ### aquiferref05_Compare: function 67 -/
mutual
def aquiferref05_Compare.l0 : Nat → List ByteArray → List ByteArray → Int → Option (Int)
  | 0, _, _, _ => none
  | k + 1, x5, x6, x7 => if x7 < (x5.length : Int) then (aquiferref05_Compare.j1 k x5 x6 x7 (decide (x7 < (x6.length : Int)))) else (aquiferref05_Compare.j1 k x5 x6 x7 false)
def aquiferref05_Compare.j1 : Nat → List ByteArray → List ByteArray → Int → Bool → Option (Int)
  | 0, _, _, _, _ => none
  | k + 1, x5, x6, x7, x21 => if x21 = true then (if 0 ≤ x7 then (if x7 < (x5.length : Int) then (if x7 < (x6.length : Int) then (if (Op.bytesLess ((rdOf ByteArray.empty x5 x7).toList) ((rdOf ByteArray.empty x6 x7).toList)) = true then (some (-1)) else (if (Op.bytesLess ((rdOf ByteArray.empty x6 x7).toList) ((rdOf ByteArray.empty x5 x7).toList)) = true then (some 1) else (aquiferref05_Compare.l0 k x5 x6 (wrap64 (x7 + 1))))) else (none)) else (none)) else (none)) else (if (x5.length : Int) < (x6.length : Int) then (some (-1)) else (if (x5.length : Int) > (x6.length : Int) then (some 1) else (some 0)))
end
def aquiferref05_Compare.f (k : Nat) (a0 : ByteArray) (a1 : ByteArray) : Option (Int) := (aquiferref05_Names.f k a0).bind fun t119 => ((aquiferref05_Names.f k a1).bind fun t122 => (aquiferref05_Compare.l0 k t119 t122 0))
theorem aquiferref05_Compare.mono_l : ∀ k, (∀ y0 y1 y2, LeO (aquiferref05_Compare.l0 k y0 y1 y2) (aquiferref05_Compare.l0 (k + 1) y0 y1 y2)) ∧ (∀ y0 y1 y2 y3, LeO (aquiferref05_Compare.j1 k y0 y1 y2 y3) (aquiferref05_Compare.j1 (k + 1) y0 y1 y2 y3))
  | 0 => ⟨fun _ _ _ r h => by simp [aquiferref05_Compare.l0] at h, fun _ _ _ _ r h => by simp [aquiferref05_Compare.j1] at h⟩
  | k + 1 => by
    obtain ⟨ih0, ih1⟩ := aquiferref05_Compare.mono_l k
    refine ⟨?_, ?_⟩
    · intro y0 y1 y2
      unfold aquiferref05_Compare.l0
      repeat' first
      | (with_reducible exact ih0 _ _ _)
      | (with_reducible exact ih1 _ _ _ _)
      | (with_reducible exact aquiferref05_Names.mono _ _)
      | (with_reducible exact LeO.refl _)
      | (with_reducible exact LeO.none _)
      | (with_reducible refine LeO.ite ?_ ?_)
      | (with_reducible refine LeO.bind ?_ (fun _ => ?_))
      | exact ih0 _ _ _
      | exact ih1 _ _ _ _
      | exact aquiferref05_Names.mono _ _
      | exact LeO.none _
      | refine LeO.ite ?_ ?_
      | refine LeO.bind ?_ (fun _ => ?_)
    · intro y0 y1 y2 y3
      unfold aquiferref05_Compare.j1
      repeat' first
      | (with_reducible exact ih0 _ _ _)
      | (with_reducible exact ih1 _ _ _ _)
      | (with_reducible exact aquiferref05_Names.mono _ _)
      | (with_reducible exact LeO.refl _)
      | (with_reducible exact LeO.none _)
      | (with_reducible refine LeO.ite ?_ ?_)
      | (with_reducible refine LeO.bind ?_ (fun _ => ?_))
      | exact ih0 _ _ _
      | exact ih1 _ _ _ _
      | exact aquiferref05_Names.mono _ _
      | exact LeO.none _
      | refine LeO.ite ?_ ?_
      | refine LeO.bind ?_ (fun _ => ?_)
theorem aquiferref05_Compare.mono : ∀ a0 a1 k, LeO (aquiferref05_Compare.f k a0 a1) (aquiferref05_Compare.f (k + 1) a0 a1) := by
  intro a0 a1 k
  obtain ⟨ih0, ih1⟩ := aquiferref05_Compare.mono_l k
  unfold aquiferref05_Compare.f
  repeat' first
      | (with_reducible exact ih0 _ _ _)
      | (with_reducible exact ih1 _ _ _ _)
      | (with_reducible exact aquiferref05_Names.mono _ _)
      | (with_reducible exact LeO.refl _)
      | (with_reducible exact LeO.none _)
      | (with_reducible refine LeO.ite ?_ ?_)
      | (with_reducible refine LeO.bind ?_ (fun _ => ?_))
      | exact ih0 _ _ _
      | exact ih1 _ _ _ _
      | exact aquiferref05_Names.mono _ _
      | exact LeO.none _
      | refine LeO.ite ?_ ?_
      | refine LeO.bind ?_ (fun _ => ?_)
set_option maxHeartbeats 8000000 in
set_option maxRecDepth 100000 in
theorem aquiferref05_Compare.calls (k : Nat) (a0 : ByteArray) (a1 : ByteArray) (r : Int) (w : World) (h : aquiferref05_Compare.f k a0 a1 = some r) :
    Calls Tryd.prog 67 #[.string a0, .string a1] w fun e w' => e = .returned (.int .i64 r) ∧ Below w.heap.size w w' := by
  have HB := Aside0.mk (Below.refl w.heap.size w)
  have H : ((aquiferref05_Names.f k a0).bind fun t119 => ((aquiferref05_Names.f k a1).bind fun t122 => (aquiferref05_Compare.l0 k t119 t122 0))) = some r := h
  clear h
  replace H := Option.bind_eq_some_iff.mp H
  obtain ⟨t119, A30, H⟩ := H
  replace H : ((aquiferref05_Names.f k a1).bind fun t122 => (aquiferref05_Compare.l0 k t119 t122 0)) = some r := H
  have A3 := Aside0.mk A30
  clear A30
  replace H := Option.bind_eq_some_iff.mp H
  obtain ⟨t122, A40, H⟩ := H
  replace H : (aquiferref05_Compare.l0 k t119 t122 0) = some r := H
  have A4 := Aside0.mk A40
  clear A40
  have H' := Aside0.mk H
  clear H
  go_enter Tryd.func67, Tryd.ntmps67
  go_wp2_with (first | (go_at_call 84; (with_reducible refine (aquiferref05_Names.calls k a0 t119 _ A3.out).mono ?_); rintro e w5 ⟨v120, rfl, ho0, hb⟩; have n0_ := Aside0.mk (Kd.R_lower ho0 (sizU HB.out)); have n1_ := Aside0.mk (below_step (belU HB.out) hb); clear HB; have HO121 := n0_; have HB := n1_; clear n0_ n1_; (try clear hb); (try clear hb2); (try clear hk); (try clear hi); (try clear ho0)) | (go_at_call 84; (with_reducible refine (aquiferref05_Names.calls k a1 t122 _ A4.out).mono ?_); rintro e w6 ⟨v123, rfl, ho0, hb⟩; have n0_ := Aside0.mk (Kd.R_elder' (RU HO121.out) (Kd.R_base ho0) hb); have n1_ := Aside0.mk (Kd.R_lower (Kd.R_new' ho0 (Kd.R_lt (RU HO121.out))) (sizU HB.out)); have n2_ := Aside0.mk (below_step (belU HB.out) hb); clear HO121; clear HB; have HO121 := n0_; have HO124 := n1_; have HB := n2_; clear n0_ n1_ n2_; (try clear hb); (try clear hb2); (try clear hk); (try clear hi); (try clear ho0)))
  repeat (go_quiet (first | (go_at_call 84; (with_reducible refine (aquiferref05_Names.calls k a0 t119 _ A3.out).mono ?_); rintro e w5 ⟨v120, rfl, ho0, hb⟩; have n0_ := Aside0.mk (Kd.R_lower ho0 (sizU HB.out)); have n1_ := Aside0.mk (below_step (belU HB.out) hb); clear HB; have HO121 := n0_; have HB := n1_; clear n0_ n1_; (try clear hb); (try clear hb2); (try clear hk); (try clear hi); (try clear ho0)) | (go_at_call 84; (with_reducible refine (aquiferref05_Names.calls k a1 t122 _ A4.out).mono ?_); rintro e w6 ⟨v123, rfl, ho0, hb⟩; have n0_ := Aside0.mk (Kd.R_elder' (RU HO121.out) (Kd.R_base ho0) hb); have n1_ := Aside0.mk (Kd.R_lower (Kd.R_new' ho0 (Kd.R_lt (RU HO121.out))) (sizU HB.out)); have n2_ := Aside0.mk (below_step (belU HB.out) hb); clear HO121; clear HB; have HO121 := n0_; have HO124 := n1_; have HB := n2_; clear n0_ n1_ n2_; (try clear hb); (try clear hb2); (try clear hk); (try clear hi); (try clear ho0))); try go_wp2_with (first | (go_at_call 84; (with_reducible refine (aquiferref05_Names.calls k a0 t119 _ A3.out).mono ?_); rintro e w5 ⟨v120, rfl, ho0, hb⟩; have n0_ := Aside0.mk (Kd.R_lower ho0 (sizU HB.out)); have n1_ := Aside0.mk (below_step (belU HB.out) hb); clear HB; have HO121 := n0_; have HB := n1_; clear n0_ n1_; (try clear hb); (try clear hb2); (try clear hk); (try clear hi); (try clear ho0)) | (go_at_call 84; (with_reducible refine (aquiferref05_Names.calls k a1 t122 _ A4.out).mono ?_); rintro e w6 ⟨v123, rfl, ho0, hb⟩; have n0_ := Aside0.mk (Kd.R_elder' (RU HO121.out) (Kd.R_base ho0) hb); have n1_ := Aside0.mk (Kd.R_lower (Kd.R_new' ho0 (Kd.R_lt (RU HO121.out))) (sizU HB.out)); have n2_ := Aside0.mk (below_step (belU HB.out) hb); clear HO121; clear HB; have HO121 := n0_; have HO124 := n1_; have HB := n2_; clear n0_ n1_ n2_; (try clear hb); (try clear hb2); (try clear hk); (try clear hi); (try clear ho0))))
  go_loopg [7] k (fun kq v7 w' => ∃ (x7_1 : Int), v7 = .int .i64 x7_1 ∧ Aside0 (aquiferref05_Compare.l0 kq t119 t122 x7_1 = some r) ∧ Aside0 (kq ≤ k) ∧ Aside0 (Kd.R Kd.string 9 w' w.heap.size (fun k_ => some k_ ≠ (v123 : Value).ownBlock) v120 t119) ∧ Aside0 (Kd.R Kd.string 9 w' w.heap.size (fun k_ => some k_ ≠ (v120 : Value).ownBlock) v123 t122) ∧ Aside0 (Below w.heap.size w w'))
  case atStart => exact ⟨(0), (by first | rfl | (simp; done) | (simp [*]; done)), H', ⟨Nat.le_refl _⟩, ⟨by (with_reducible repeat (first | apply Kd.R_alloc | apply Kd.R_drewN | apply Kd.R_drew)); exact Kd.R_mono HO121.out (fun _ hk => hk.2)⟩, ⟨by (with_reducible repeat (first | apply Kd.R_alloc | apply Kd.R_drewN | apply Kd.R_drew)); exact Kd.R_mono HO124.out (fun _ hk => hk.2)⟩, ⟨belU HB.out⟩⟩
  case round =>
    clear H'
    try clear p2
    try clear c6
    obtain ⟨x7_1, rfl, HA, HK1, HO_5, HO_6, HB⟩ := hrel
    cases gk with
    | zero => exact absurd HA.out (by simp [aquiferref05_Compare.l0])
    | succ k1 =>
      have H := HA.out
      clear HA
      simp only [aquiferref05_Compare.l0] at H
      have HC7 := Aside0.mk H
      clear H
      go_upto_region 4 with (fail)
      repeat (go_quiet (fail); go_upto_region 4 with (fail))
      go_cut [21] (fun v21 wc => ∃ (kq : Nat) (x21_6 : Bool), v21 = .bool x21_6 ∧ Aside0 (aquiferref05_Compare.j1 kq t119 t122 x7_1 x21_6 = some r) ∧ Aside0 (kq ≤ k1) ∧ Aside0 (Kd.R Kd.string 9 wc w.heap.size (fun k_ => some k_ ≠ (v123 : Value).ownBlock) v120 t119) ∧ Aside0 (Kd.R Kd.string 9 wc w.heap.size (fun k_ => some k_ ≠ (v120 : Value).ownBlock) v123 t122) ∧ Aside0 (Below w.heap.size w wc))
      case first =>
        have H := HC7.out
        clear HC7
        by_cases c8 : x7_1 < (t119.length : Int)
        · rw [if_pos c8] at H
          have c8b0 : decide (x7_1 < (t119.length : Int)) = true := decide_eq_true c8
          clear c8
          (first | rw [c8b0] | (simp only [i64_w, i32_w]; rw [c8b0]) | skip)
          have H' := Aside0.mk H
          clear H
          obtain ⟨Ao9, co9, eo9⟩ := Kd.R_slice HO_5.out
          subst eo9
          obtain ⟨Ao10, co10, eo10⟩ := Kd.R_slice HO_6.out
          subst eo10
          go_wp2
          repeat (go_quiet (fail); try go_wp2)
          go_meet
          case rel => exact ⟨_, (decide (x7_1 < (t122.length : Int))), (by first | rfl | (simp; done) | (simp [*]; done)), H', ⟨by have := HK1.out; first | omega | exact Nat.le_refl _⟩, ⟨RU HO_5.out⟩, ⟨RU HO_6.out⟩, ⟨belU HB.out⟩⟩
        · rw [if_neg c8] at H
          have c8b0 : decide (x7_1 < (t119.length : Int)) = false := decide_eq_false c8
          clear c8
          (first | rw [c8b0] | (simp only [i64_w, i32_w]; rw [c8b0]) | skip)
          have H' := Aside0.mk H
          clear H
          obtain ⟨Ao11, co11, eo11⟩ := Kd.R_slice HO_5.out
          subst eo11
          go_wp2
          repeat (go_quiet (fail); try go_wp2)
          go_meet
          case rel => exact ⟨_, (false), (by first | rfl | (simp; done) | (simp [*]; done)), H', ⟨by have := HK1.out; first | omega | exact Nat.le_refl _⟩, ⟨RU HO_5.out⟩, ⟨RU HO_6.out⟩, ⟨belU HB.out⟩⟩
      case rest =>
        clear HC7
        try clear p2
        try clear c6
        try clear c8
        try clear c8b0
        try clear p2
        obtain ⟨kq, x21_6, rfl, HA, HJ6, HO_5, HO_6, HB⟩ := hcut
        cases kq with
        | zero => exact absurd HA.out (by simp [aquiferref05_Compare.j1])
        | succ kj6 =>
          have H := HA.out
          clear HA
          simp only [aquiferref05_Compare.j1] at H
          by_cases c12 : x21_6 = true
          · subst c12
            have H1 : (if 0 ≤ x7_1 then (if x7_1 < (t119.length : Int) then (if x7_1 < (t122.length : Int) then (if (Op.bytesLess ((rdOf ByteArray.empty t119 x7_1).toList) ((rdOf ByteArray.empty t122 x7_1).toList)) = true then (some (-1)) else (if (Op.bytesLess ((rdOf ByteArray.empty t122 x7_1).toList) ((rdOf ByteArray.empty t119 x7_1).toList)) = true then (some 1) else (aquiferref05_Compare.l0 kj6 t119 t122 (wrap64 (x7_1 + 1))))) else (none)) else (none)) else (none)) = some r := by rw [if_pos rfl] at H; exact H
            clear H
            have H := H1
            clear H1
            by_cases c13 : 0 ≤ x7_1
            · rw [if_pos c13] at H
              have c13b0 : decide (0 ≤ x7_1) = true := decide_eq_true c13
              clear c13
              by_cases c14 : x7_1 < (t119.length : Int)
              · rw [if_pos c14] at H
                have c14b0 : decide (x7_1 < (t119.length : Int)) = true := decide_eq_true c14
                clear c14
                by_cases c15 : x7_1 < (t122.length : Int)
                · rw [if_pos c15] at H
                  have c15b0 : decide (x7_1 < (t122.length : Int)) = true := decide_eq_true c15
                  clear c15
                  by_cases c16 : (Op.bytesLess ((rdOf ByteArray.empty t119 x7_1).toList) ((rdOf ByteArray.empty t122 x7_1).toList)) = true
                  · rw [if_pos c16] at H
                    have c16b0 : (Op.bytesLess ((rdOf ByteArray.empty t119 x7_1).toList) ((rdOf ByteArray.empty t122 x7_1).toList)) = true := c16
                    try have c16g : (((rdOf ByteArray.empty t122 x7_1).toList) == ((rdOf ByteArray.empty t119 x7_1).toList)) = false := bl_ne _ _ c16b0
                    clear c16
                    obtain rfl := Option.some.inj H
                    obtain ⟨Ao17, co17, eo17⟩ := Kd.R_slice HO_5.out
                    subst eo17
                    have p125 : 0 ≤ (x7_1 : Int) := of_decide_eq_true (by first | (with_reducible assumption) | assumption)
                    have q125 : x7_1 < (t119.length : Int) := of_decide_eq_true (by first | (with_reducible assumption) | assumption)
                    obtain ⟨ad125, e125, hx125_0⟩ := Kd.at_string (Kd.R_reads' HO_5.out).2.2 x7_1 p125 q125
                    cases e125
                    replace p125 := eq_true p125
                    replace q125 := eq_true q125
                    obtain ⟨Ao18, co18, eo18⟩ := Kd.R_slice HO_6.out
                    subst eo18
                    have p126 : 0 ≤ (x7_1 : Int) := of_decide_eq_true (by first | (with_reducible assumption) | assumption)
                    have q126 : x7_1 < (t122.length : Int) := of_decide_eq_true (by first | (with_reducible assumption) | assumption)
                    obtain ⟨ad126, e126, hx126_0⟩ := Kd.at_string (Kd.R_reads' HO_6.out).2.2 x7_1 p126 q126
                    cases e126
                    replace p126 := eq_true p126
                    replace q126 := eq_true q126
                    go_wp2
                    repeat (go_quiet (fail); try go_wp2)
                    go_ret
                    exact ⟨by first | rfl | (simp [errW_none, errW_some] <;> rfl) | (simp [*, errW_none, errW_some] <;> rfl), belU HB.out⟩
                  · rw [if_neg c16] at H
                    have c16b0 : (Op.bytesLess ((rdOf ByteArray.empty t119 x7_1).toList) ((rdOf ByteArray.empty t122 x7_1).toList)) = false := by simpa using c16
                    try have c16g : (((rdOf ByteArray.empty t122 x7_1).toList) == ((rdOf ByteArray.empty t119 x7_1).toList)) = true := bl_eqb _ _ (by assumption) c16b0
                    clear c16
                    by_cases c19 : (Op.bytesLess ((rdOf ByteArray.empty t122 x7_1).toList) ((rdOf ByteArray.empty t119 x7_1).toList)) = true
                    · rw [if_pos c19] at H
                      have c19b0 : (Op.bytesLess ((rdOf ByteArray.empty t122 x7_1).toList) ((rdOf ByteArray.empty t119 x7_1).toList)) = true := c19
                      try have c19g : (((rdOf ByteArray.empty t119 x7_1).toList) == ((rdOf ByteArray.empty t122 x7_1).toList)) = false := bl_ne _ _ c19b0
                      clear c19
                      obtain rfl := Option.some.inj H
                      obtain ⟨Ao20, co20, eo20⟩ := Kd.R_slice HO_5.out
                      subst eo20
                      have p125 : 0 ≤ (x7_1 : Int) := of_decide_eq_true (by first | (with_reducible assumption) | assumption)
                      have q125 : x7_1 < (t119.length : Int) := of_decide_eq_true (by first | (with_reducible assumption) | assumption)
                      obtain ⟨ad125, e125, hx125_0⟩ := Kd.at_string (Kd.R_reads' HO_5.out).2.2 x7_1 p125 q125
                      cases e125
                      replace p125 := eq_true p125
                      replace q125 := eq_true q125
                      obtain ⟨Ao21, co21, eo21⟩ := Kd.R_slice HO_6.out
                      subst eo21
                      have p126 : 0 ≤ (x7_1 : Int) := of_decide_eq_true (by first | (with_reducible assumption) | assumption)
                      have q126 : x7_1 < (t122.length : Int) := of_decide_eq_true (by first | (with_reducible assumption) | assumption)
                      obtain ⟨ad126, e126, hx126_0⟩ := Kd.at_string (Kd.R_reads' HO_6.out).2.2 x7_1 p126 q126
                      cases e126
                      replace p126 := eq_true p126
                      replace q126 := eq_true q126
                      have p127 : 0 ≤ (x7_1 : Int) := of_decide_eq_true (by first | (with_reducible assumption) | assumption)
                      have q127 : x7_1 < (t119.length : Int) := of_decide_eq_true (by first | (with_reducible assumption) | assumption)
                      obtain ⟨ad127, e127, hx127_0⟩ := Kd.at_string (Kd.R_reads' HO_5.out).2.2 x7_1 p127 q127
                      obtain rfl : ad125 = ad127 := (by injection e127)
                      replace p127 := eq_true p127
                      replace q127 := eq_true q127
                      have p128 : 0 ≤ (x7_1 : Int) := of_decide_eq_true (by first | (with_reducible assumption) | assumption)
                      have q128 : x7_1 < (t122.length : Int) := of_decide_eq_true (by first | (with_reducible assumption) | assumption)
                      obtain ⟨ad128, e128, hx128_0⟩ := Kd.at_string (Kd.R_reads' HO_6.out).2.2 x7_1 p128 q128
                      obtain rfl : ad126 = ad128 := (by injection e128)
                      replace p128 := eq_true p128
                      replace q128 := eq_true q128
                      go_wp2
                      repeat (go_quiet (fail); try go_wp2)
                      go_ret
                      exact ⟨by first | rfl | (simp [errW_none, errW_some] <;> rfl) | (simp [*, errW_none, errW_some] <;> rfl), belU HB.out⟩
                    · rw [if_neg c19] at H
                      have c19b0 : (Op.bytesLess ((rdOf ByteArray.empty t122 x7_1).toList) ((rdOf ByteArray.empty t119 x7_1).toList)) = false := by simpa using c19
                      try have c19g : (((rdOf ByteArray.empty t119 x7_1).toList) == ((rdOf ByteArray.empty t122 x7_1).toList)) = true := bl_eqb _ _ (by assumption) c19b0
                      clear c19
                      have H' := Aside0.mk H
                      clear H
                      obtain ⟨Ao22, co22, eo22⟩ := Kd.R_slice HO_5.out
                      subst eo22
                      have p125 : 0 ≤ (x7_1 : Int) := of_decide_eq_true (by first | (with_reducible assumption) | assumption)
                      have q125 : x7_1 < (t119.length : Int) := of_decide_eq_true (by first | (with_reducible assumption) | assumption)
                      obtain ⟨ad125, e125, hx125_0⟩ := Kd.at_string (Kd.R_reads' HO_5.out).2.2 x7_1 p125 q125
                      cases e125
                      replace p125 := eq_true p125
                      replace q125 := eq_true q125
                      obtain ⟨Ao23, co23, eo23⟩ := Kd.R_slice HO_6.out
                      subst eo23
                      have p126 : 0 ≤ (x7_1 : Int) := of_decide_eq_true (by first | (with_reducible assumption) | assumption)
                      have q126 : x7_1 < (t122.length : Int) := of_decide_eq_true (by first | (with_reducible assumption) | assumption)
                      obtain ⟨ad126, e126, hx126_0⟩ := Kd.at_string (Kd.R_reads' HO_6.out).2.2 x7_1 p126 q126
                      cases e126
                      replace p126 := eq_true p126
                      replace q126 := eq_true q126
                      have p127 : 0 ≤ (x7_1 : Int) := of_decide_eq_true (by first | (with_reducible assumption) | assumption)
                      have q127 : x7_1 < (t119.length : Int) := of_decide_eq_true (by first | (with_reducible assumption) | assumption)
                      obtain ⟨ad127, e127, hx127_0⟩ := Kd.at_string (Kd.R_reads' HO_5.out).2.2 x7_1 p127 q127
                      obtain rfl : ad125 = ad127 := (by injection e127)
                      replace p127 := eq_true p127
                      replace q127 := eq_true q127
                      have p128 : 0 ≤ (x7_1 : Int) := of_decide_eq_true (by first | (with_reducible assumption) | assumption)
                      have q128 : x7_1 < (t122.length : Int) := of_decide_eq_true (by first | (with_reducible assumption) | assumption)
                      obtain ⟨ad128, e128, hx128_0⟩ := Kd.at_string (Kd.R_reads' HO_6.out).2.2 x7_1 p128 q128
                      obtain rfl : ad126 = ad128 := (by injection e128)
                      replace p128 := eq_true p128
                      replace q128 := eq_true q128
                      go_wp2
                      repeat (go_quiet (fail); try go_wp2)
                      go_roundg kj6
                      case measure => have := HK1.out; have := HJ6.out; omega
                      case rel => exact ⟨(wrap64 (x7_1 + 1)), (by first | rfl | (simp; done) | (simp [*]; done)), H', ⟨by have := HK1.out; have := HJ6.out; omega⟩, ⟨RU HO_5.out⟩, ⟨RU HO_6.out⟩, ⟨belU HB.out⟩⟩
                · rw [if_neg c15] at H
                  exact absurd H (by simp)
              · rw [if_neg c14] at H
                exact absurd H (by simp)
            · rw [if_neg c13] at H
              exact absurd H (by simp)
          · replace c12 := Bool.eq_false_iff.mpr c12
            subst c12
            have H1 : (if (t119.length : Int) < (t122.length : Int) then (some (-1)) else (if (t119.length : Int) > (t122.length : Int) then (some 1) else (some 0))) = some r := by rw [if_neg (show ¬ (false = true) by decide)] at H; exact H
            clear H
            have H := H1
            clear H1
            by_cases c24 : (t119.length : Int) < (t122.length : Int)
            · rw [if_pos c24] at H
              have c24b0 : decide ((t119.length : Int) < (t122.length : Int)) = true := decide_eq_true c24
              have c24b1 : decide (t119.length < t122.length) = true := decide_eq_true (Int.ofNat_lt.mp c24)
              clear c24
              obtain rfl := Option.some.inj H
              obtain ⟨Ao25, co25, eo25⟩ := Kd.R_slice HO_5.out
              subst eo25
              obtain ⟨Ao26, co26, eo26⟩ := Kd.R_slice HO_6.out
              subst eo26
              go_wp2
              repeat (go_quiet (fail); try go_wp2)
              go_ret
              exact ⟨by first | rfl | (simp [errW_none, errW_some] <;> rfl) | (simp [*, errW_none, errW_some] <;> rfl), belU HB.out⟩
            · rw [if_neg c24] at H
              have c24b0 : decide ((t119.length : Int) < (t122.length : Int)) = false := decide_eq_false c24
              have c24b1 : decide (t119.length < t122.length) = false := decide_eq_false (fun h => c24 (Int.ofNat_lt.mpr h))
              clear c24
              by_cases c27 : (t119.length : Int) > (t122.length : Int)
              · rw [if_pos c27] at H
                have c27b0 : decide ((t122.length : Int) < (t119.length : Int)) = true := decide_eq_true c27
                have c27b1 : decide (t122.length < t119.length) = true := decide_eq_true (Int.ofNat_lt.mp c27)
                clear c27
                obtain rfl := Option.some.inj H
                obtain ⟨Ao28, co28, eo28⟩ := Kd.R_slice HO_5.out
                subst eo28
                obtain ⟨Ao29, co29, eo29⟩ := Kd.R_slice HO_6.out
                subst eo29
                go_wp2
                repeat (go_quiet (fail); try go_wp2)
                go_ret
                exact ⟨by first | rfl | (simp [errW_none, errW_some] <;> rfl) | (simp [*, errW_none, errW_some] <;> rfl), belU HB.out⟩
              · rw [if_neg c27] at H
                have c27b0 : decide ((t122.length : Int) < (t119.length : Int)) = false := decide_eq_false c27
                have c27b1 : decide (t122.length < t119.length) = false := decide_eq_false (fun h => c27 (Int.ofNat_lt.mpr h))
                clear c27
                obtain rfl := Option.some.inj H
                obtain ⟨Ao30, co30, eo30⟩ := Kd.R_slice HO_5.out
                subst eo30
                obtain ⟨Ao31, co31, eo31⟩ := Kd.R_slice HO_6.out
                subst eo31
                go_wp2
                repeat (go_quiet (fail); try go_wp2)
                go_ret
                exact ⟨by first | rfl | (simp [errW_none, errW_some] <;> rfl) | (simp [*, errW_none, errW_some] <;> rfl), belU HB.out⟩

end Go.Proofs.YtjllbkeobibnkaaDoor.Q

namespace Go.Proofs.YtjllbkeobibnkaaDoor.Q
open Go Go.Proofs Go.Shelf Go.RowKit Go.Lib Go.Sort Go.Proofs.YtjllbkeobibnkaaDoorP Go.Proofs.YtjllbkeobibnkaaDoorK Go.Proofs.YtjllbkeobibnkaaDoorW.PrintWords Go.Proofs.YtjllbkeobibnkaaDoorW.PrintLast Go.Proofs.YtjllbkeobibnkaaDoorW.PrintMore
set_option linter.unusedSimpArgs false
set_option linter.unusedVariables false
/-! ### The document's Names, Compare, Kind -/
theorem rdB (l : List ByteArray) (i : Nat) (h : i < l.length) : rdOf ByteArray.empty l (i : Int) = l[i] := by unfold rdOf; simp [h]
theorem wr1 (i : Nat) (h : i < 1048577) : wrap64 ((i : Int) + 1) = ((i + 1 : Nat) : Int) := by unfold wrap64; omega
theorem wr (i : Nat) (h : i < 1048576) : wrap64 ((i : Int) + 1) = ((i + 1 : Nat) : Int) := by unfold wrap64; omega
def lastApp (c : UInt8) : List (List UInt8) → List (List UInt8)
  | [] => [[c]]
  | [n] => [n ++ [c]]
  | n :: m :: ns => n :: lastApp c (m :: ns)
theorem names_snoc (l : List UInt8) (c : UInt8) : names (l ++ [c]) = if c = 47 then names l ++ [[]] else lastApp c (names l) := by
  induction l with
  | nil =>
    simp only [List.nil_append, names]
    split <;> rfl
  | cons b l ih =>
    rw [List.cons_append]
    have hne := names_ne l
    by_cases hb : b = 47
    · simp only [names, if_pos hb]
      rw [ih]
      by_cases hc : c = 47
      · rw [if_pos hc, if_pos hc]
        rfl
      · rw [if_neg hc, if_neg hc]
        cases hn : names l with
        | nil => exact absurd hn hne
        | cons n ns => rfl
    · simp only [names, if_neg hb]
      rw [ih]
      cases hn : names l with
      | nil => exact absurd hn hne
      | cons n ns =>
        by_cases hc : c = 47
        · rw [if_pos hc, if_pos hc]
          rfl
        · rw [if_neg hc, if_neg hc]
          cases ns <;> rfl
theorem lastApp_set (c : UInt8) : ∀ l : List (List UInt8), l ≠ [] → lastApp c l = l.set (l.length - 1) (l.getD (l.length - 1) [] ++ [c])
  | [], h => absurd rfl h
  | [n], _ => rfl
  | n :: m :: ns, _ => by
    have ih := lastApp_set c (m :: ns) (by simp)
    show n :: lastApp c (m :: ns) = _
    rw [ih]
    simp
theorem bt_47 (s : ByteArray) (i : Nat) (h : i < s.size) : bt s (i : Int) = 47 ↔ s.data.toList[i]'h = 47 := by
  have h1 : bt s (i : Int) = ((s[i]'h).toNat : Int) := by simp [bt, h]
  have h2 : s.data.toList[i]'h = s[i]'h := rfl
  rw [h1, h2]
  constructor
  · intro e
    apply UInt8.toNat_inj.1
    have e2 : (s[i]'h).toNat = 47 := by omega
    rw [e2]
    rfl
  · intro e
    rw [e]
    rfl
theorem map_data_len {L : List ByteArray} {M : List (List UInt8)} (h : L.map (·.data.toList) = M) : L.length = M.length := by
  rw [← h, List.length_map]
theorem names_len (l : List UInt8) : (names l).length ≤ l.length + 1 := by
  induction l with
  | nil => simp [names]
  | cons c l ih =>
    unfold names
    split
    · simp only [List.length_cons]; omega
    · split
      · simp
      · rename_i h
        rw [h] at ih
        simp only [List.length_cons] at ih ⊢
        omega
theorem flat_size : ∀ (L : List (List UInt8)) (j : Nat), (L.getD j []).length ≤ (L.map List.length).sum
  | [], j => by simp
  | n :: L, 0 => by simp
  | n :: L, j + 1 => by
    have := flat_size L j
    simp only [List.getD_cons_succ, List.map_cons, List.sum_cons]
    omega
theorem names_sum (l : List UInt8) : ((names l).map List.length).sum ≤ l.length := by
  induction l with
  | nil => simp [names]
  | cons c l ih =>
    unfold names
    split
    · simp only [List.map_cons, List.sum_cons, List.length_nil, List.length_cons]; omega
    · split
      · simp
      · rename_i h
        rw [h] at ih
        simp only [List.map_cons, List.sum_cons, List.length_cons] at ih ⊢
        omega
theorem names_loop (s : ByteArray) (hs : s.size ≤ 65536) (d : Nat) : ∀ (i k : Nat) (L : List ByteArray), i + d = s.size → d < k → L.map (·.data.toList) = names (s.data.toList.take i) → ∃ M, aquiferref05_Names.l0 k s L (i : Int) = some M ∧ M.map (·.data.toList) = names s.data.toList := by
  have hsz : s.data.toList.length = s.size := rfl
  induction d with
  | zero =>
    intro i k L h hk hL
    obtain ⟨k, rfl⟩ : ∃ q, k = q + 1 := ⟨k - 1, by omega⟩
    refine ⟨L, ?_, ?_⟩
    · unfold aquiferref05_Names.l0
      rw [if_neg (by omega)]
    · rw [hL, List.take_of_length_le (by omega)]
  | succ d ih =>
    intro i k L h hk hL
    obtain ⟨k, rfl⟩ : ∃ q, k = q + 1 := ⟨k - 1, by omega⟩
    have hi : i < s.size := by omega
    have hi' : i < s.data.toList.length := by omega
    have hl := map_data_len hL
    have hln := names_len (s.data.toList.take i)
    have hne := names_ne (s.data.toList.take i)
    have hpos : 0 < L.length := by
      rw [hl]
      exact List.length_pos_iff.2 hne
    have hlt : (s.data.toList.take i).length ≤ 65536 := by rw [List.length_take]; omega
    have hsn := names_snoc (s.data.toList.take i) (s.data.toList[i]'hi')
    rw [← List.take_succ_eq_append_getElem hi'] at hsn
    unfold aquiferref05_Names.l0
    rw [if_pos (by omega), if_pos (by omega), wr i (by omega)]
    by_cases hc : bt s (i : Int) = 47
    · rw [if_pos hc, if_pos (by omega)]
      refine ih (i + 1) k _ (by omega) (by omega) ?_
      rw [hsn, if_pos ((bt_47 s i hi).1 hc), List.map_append, hL]
      rfl
    · have hw : wrap64 ((L.length : Int) - 1) = ((L.length - 1 : Nat) : Int) := by unfold wrap64; omega
      rw [if_neg hc, hw, if_pos (by omega), if_pos (by omega), if_pos (by omega), if_pos (by omega)]
      have hrd : (rdOf ByteArray.empty L ((L.length - 1 : Nat) : Int)).data.toList = (names (s.data.toList.take i)).getD (L.length - 1) [] := by
        unfold rdOf
        rw [← hL]
        simp [List.getD_eq_getElem?_getD]
        cases L[L.length - 1]? <;> rfl
      have hex : (s.extract ((i : Nat) : Int).toNat (((i + 1 : Nat) : Int)).toNat).data.toList = [s.data.toList[i]'hi'] := by
        simp only [Int.toNat_natCast, ByteArray.data_extract, Array.toList_extract]
        rw [List.extract_eq_take_drop, show i + 1 - i = 1 by omega, List.drop_eq_getElem_cons hi']
        rfl
      have hsz1 : (rdOf ByteArray.empty L ((L.length - 1 : Nat) : Int)).size ≤ 65536 := by
        have h1 := flat_size (names (s.data.toList.take i)) (L.length - 1)
        have h2 := names_sum (s.data.toList.take i)
        have h3 : (rdOf ByteArray.empty L ((L.length - 1 : Nat) : Int)).size = (rdOf ByteArray.empty L ((L.length - 1 : Nat) : Int)).data.toList.length := rfl
        rw [h3, hrd]
        omega
      have hsz2 : (s.extract ((i : Nat) : Int).toNat (((i + 1 : Nat) : Int)).toNat).size = 1 := by
        have h3 : (s.extract ((i : Nat) : Int).toNat (((i + 1 : Nat) : Int)).toNat).size = (s.extract ((i : Nat) : Int).toNat (((i + 1 : Nat) : Int)).toNat).data.toList.length := rfl
        rw [h3, hex]
        rfl
      rw [if_pos (by omega)]
      refine ih (i + 1) k _ (by omega) (by omega) ?_
      rw [hsn, if_neg (fun e => hc ((bt_47 s i hi).2 e)), lastApp_set _ _ hne, List.map_set, hL, ByteArray.data_append, Array.toList_append, hrd, hex, ← hl]
      rfl
theorem refnames (s : ByteArray) (hs : s.size ≤ 65536) (k : Nat) (hk : s.size < k) : ∃ M, aquiferref05_Names.f k s = some M ∧ M.map (·.data.toList) = names s.data.toList :=
  names_loop s hs s.size 0 k [⟨#[]⟩] (by omega) hk rfl
theorem cmp_less : ∀ x y : List UInt8, Lib.compareBytes x y = if Op.bytesLess x y = true then -1 else if Op.bytesLess y x = true then 1 else 0
  | [], [] => rfl
  | [], _ :: _ => rfl
  | _ :: _, [] => rfl
  | a :: x, b :: y => by
    have ih := cmp_less x y
    simp only [Lib.compareBytes, Op.bytesLess, Bool.or_eq_true, decide_eq_true_eq, Bool.and_eq_true, beq_iff_eq]
    by_cases h1 : a < b
    · rw [if_pos h1, if_pos (.inl h1)]
    · rw [if_neg h1]
      by_cases h2 : b < a
      · have hn : a ≠ b := fun e => by subst e; exact UInt8.lt_irrefl _ h2
        rw [if_pos h2, if_neg (by rintro (h | h); · exact h1 h
                                  · exact hn h.1), if_pos (.inl h2)]
      · have he : a = b := UInt8.le_antisymm (UInt8.not_lt.1 h2) (UInt8.not_lt.1 h1)
        subst he
        rw [if_neg h1, ih]
        simp [UInt8.lt_irrefl]
theorem cmp_loop (x y : List ByteArray) (hx : x.length ≤ 100000) (d : Nat) : ∀ (i k : Nat), min x.length y.length ≤ i + d → i ≤ x.length → i ≤ y.length → 2 * d + 1 < k → aquiferref05_Compare.l0 k x y (i : Int) = some (cmpN ((x.map (·.data.toList)).drop i) ((y.map (·.data.toList)).drop i)) := by
  have hend : ∀ (i k : Nat), i ≤ x.length → i ≤ y.length → (i = x.length ∨ i = y.length) → aquiferref05_Compare.j1 (k + 1) x y (i : Int) false = some (cmpN ((x.map (·.data.toList)).drop i) ((y.map (·.data.toList)).drop i)) := by
    intro i k h1 h2 h3
    have he := lex_end Lib.compareBytes (x.map (·.data.toList)) (y.map (·.data.toList)) i (by rw [List.length_map]; exact h1) (by rw [List.length_map]; exact h2) (by rw [List.length_map, List.length_map]; exact h3)
    unfold aquiferref05_Compare.j1 cmpN
    rw [he, if_neg (by decide), List.length_map, List.length_map]
    unfold Lib.compareInt
    split
    · rfl
    · split <;> rfl
  have hstop : ∀ (i k : Nat), i ≤ x.length → i ≤ y.length → (i = x.length ∨ i = y.length) → aquiferref05_Compare.l0 (k + 1 + 1) x y (i : Int) = some (cmpN ((x.map (·.data.toList)).drop i) ((y.map (·.data.toList)).drop i)) := by
    intro i k h1 h2 h3
    unfold aquiferref05_Compare.l0
    by_cases h4 : (i : Int) < (x.length : Int)
    · rw [if_pos h4, decide_eq_false (by omega)]
      exact hend i k h1 h2 h3
    · rw [if_neg h4]
      exact hend i k h1 h2 h3
  induction d with
  | zero =>
    intro i k h h1 h2 hk
    obtain ⟨k, rfl⟩ : ∃ q, k = q + 1 + 1 := ⟨k - 2, by omega⟩
    exact hstop i k h1 h2 (by omega)
  | succ d ih =>
    intro i k h h1 h2 hk
    obtain ⟨k, rfl⟩ : ∃ q, k = q + 1 + 1 := ⟨k - 2, by omega⟩
    by_cases h3 : i = x.length ∨ i = y.length
    · exact hstop i k h1 h2 h3
    · have hix : i < x.length := by omega
      have hiy : i < y.length := by omega
      have ih' := ih (i + 1) k (by omega) (by omega) (by omega) (by omega)
      have rx : rdOf ByteArray.empty x (i : Int) = x[i] := by unfold rdOf; simp [hix]
      have ry : rdOf ByteArray.empty y (i : Int) = y[i] := by unfold rdOf; simp [hiy]
      unfold aquiferref05_Compare.l0
      rw [if_pos (by omega), decide_eq_true (by omega)]
      unfold aquiferref05_Compare.j1
      rw [if_pos rfl, if_pos (by omega), if_pos (by omega), if_pos (by omega), rx, ry, wr i (by omega), ih']
      rw [List.drop_eq_getElem_cons (show i < (x.map (·.data.toList)).length by rw [List.length_map]; exact hix), List.drop_eq_getElem_cons (show i < (y.map (·.data.toList)).length by rw [List.length_map]; exact hiy)]
      simp only [cmpN, lexC, List.getElem_map]
      rw [cmp_less, ← Lib.toList_data, ← Lib.toList_data]
      by_cases h4 : Op.bytesLess x[i].toList y[i].toList = true
      · rw [if_pos h4, if_pos h4, if_neg (by decide)]
      · rw [if_neg h4, if_neg h4]
        by_cases h5 : Op.bytesLess y[i].toList x[i].toList = true
        · rw [if_pos h5, if_pos h5, if_neg (by decide)]
        · rw [if_neg h5, if_neg h5, if_pos rfl]
theorem refcompare (a b : ByteArray) (ha : a.size ≤ 65536) (hb : b.size ≤ 65536) (k : Nat) (hk : 2 * a.size + 4 ≤ k) (hk2 : b.size < k) : aquiferref05_Compare.f k a b = some (pcmp a b) := by
  obtain ⟨M, h1, h2⟩ := refnames a ha k (by omega)
  obtain ⟨N, h3, h4⟩ := refnames b hb k hk2
  have hm := map_data_len h2
  have hl := names_len a.data.toList
  have hsz : a.data.toList.length = a.size := rfl
  unfold aquiferref05_Compare.f
  rw [h1, Option.bind_some, h3, Option.bind_some]
  have := cmp_loop M N (by omega) M.length 0 k (by omega) (by omega) (by omega) (by omega)
  unfold pcmp
  rw [← h2, ← h4]
  simpa using this
theorem btl_at (s : ByteArray) (i : Nat) (h : i < s.data.toList.length) : bt s (i : Int) = ((s.data.toList[i]).toNat : Int) := by
  have h' : i < s.size := h
  unfold bt
  simp [h']
  rfl
theorem sign_fn (c : UInt8) : aquiferref05_sign.f (c.toNat : Int) = some (signB c) := by
  unfold aquiferref05_sign.f signB
  have e1 : ∀ m : UInt8, (decide (m ≤ c)) = decide ((m.toNat : Int) ≤ (c.toNat : Int)) := fun m => by rw [decide_eq_decide, UInt8.le_iff_toNat_le]; omega
  have e2 : ∀ m : UInt8, (decide (c ≤ m)) = decide ((c.toNat : Int) ≤ (m.toNat : Int)) := fun m => by rw [decide_eq_decide, UInt8.le_iff_toNat_le]; omega
  have e3 : ∀ m : UInt8, (c == m) = decide ((c.toNat : Int) = (m.toNat : Int)) := fun m => by
    rw [Bool.eq_iff_iff, beq_iff_eq, decide_eq_true_eq]
    exact ⟨fun h => by rw [h], fun h => UInt8.toNat.inj (by omega)⟩
  have e4 : ((c.toNat : Int) == 126) = decide ((c.toNat : Int) = 126) := by rw [Bool.eq_iff_iff, beq_iff_eq, decide_eq_true_eq]
  rw [e1, e2, e1, e2, e3, e3, e3, e4]
  show _ = some ((decide ((97 : Int) ≤ (c.toNat : Int)) && decide ((c.toNat : Int) ≤ 122)) || ((decide ((48 : Int) ≤ (c.toNat : Int)) && decide ((c.toNat : Int) ≤ 57)) || (decide ((c.toNat : Int) = 95) || (decide ((c.toNat : Int) = 45) || decide ((c.toNat : Int) = 126)))))
  generalize (c.toNat : Int) = z
  by_cases h1 : z ≥ 97 <;> by_cases h2 : z ≤ 122 <;> by_cases h3 : z ≥ 48 <;> by_cases h4 : z ≤ 57 <;> by_cases h5 : z = 95 <;> by_cases h6 : z = 45 <;> simp [h1, h2, h3, h4, h5, h6, ge_iff_le] <;> omega
/-- The points of a name, byte by byte. -/
def nm : Bool → Nat → List UInt8 → Option Nat
  | _, p, [] => some p
  | first, p, c :: l => if c = 46 then (if first = true ∨ l = [] then none else nm false (p + 1) l) else if signB c = true then nm false p l else none
def nmEnd (len : Nat) : Option Nat → Int
  | none => 0
  | some p => if len = 0 then 0 else if 24 < len then 0 else if 1 < p then 0 else 1 + (p : Int)
theorem name_loop (s : ByteArray) (hs : s.size ≤ 65536) (d : Nat) : ∀ (i k p : Nat), i + d = s.data.toList.length → d < k → p ≤ i → aquiferref05_name.l0 k s (p : Int) (i : Int) = some (nmEnd s.size (nm (i == 0) p (s.data.toList.drop i))) := by
  have hsz : s.data.toList.length = s.size := rfl
  induction d with
  | zero =>
    intro i k p h hk hp
    obtain ⟨k, rfl⟩ : ∃ q, k = q + 1 := ⟨k - 1, by omega⟩
    unfold aquiferref05_name.l0
    rw [if_neg (by omega), List.drop_of_length_le (by omega)]
    simp only [nm, nmEnd]
    by_cases h0 : s.size = 0
    · rw [if_pos (by omega), if_pos h0]
    · rw [if_neg (by omega), if_neg h0]
      by_cases h1 : 24 < s.size
      · rw [if_pos (by omega), if_pos h1]
      · rw [if_neg (by omega), if_neg h1]
        by_cases h2 : 1 < p
        · rw [if_pos (by omega), if_pos h2]
        · rw [if_neg (by omega), if_neg h2]
          congr 1
          unfold wrap64
          omega
  | succ d ih =>
    intro i k p h hk hp
    obtain ⟨k, rfl⟩ : ∃ q, k = q + 1 := ⟨k - 1, by omega⟩
    have hi : i < s.data.toList.length := by omega
    unfold aquiferref05_name.l0
    rw [if_pos (by omega), if_pos (by omega), btl_at s i hi, wr1 i (by omega), sign_fn, Option.bind_some, List.drop_eq_getElem_cons hi]
    have hw : wrap64 ((s.size : Int) - 1) = (s.size : Int) - 1 := by unfold wrap64; omega
    have hwp : wrap64 ((p : Int) + 1) = ((p + 1 : Nat) : Int) := wr1 p (by omega)
    rw [hw, hwp]
    have hz : (((i + 1 : Nat)) == 0) = false := rfl
    have i1 := ih (i + 1) k (p + 1) (by omega) (by omega) (by omega)
    have i2 := ih (i + 1) k p (by omega) (by omega) (by omega)
    rw [hz] at i1 i2
    simp only [nm]
    by_cases hc : s.data.toList[i] = 46
    · have hc' : ((s.data.toList[i]).toNat : Int) = 46 := by rw [hc]; rfl
      rw [if_pos hc', if_pos hc]
      by_cases h0 : i = 0
      · subst h0
        rw [if_pos (by omega), if_pos (.inl rfl)]
        rfl
      · rw [if_neg (by omega)]
        by_cases hl : i + 1 = s.data.toList.length
        · rw [if_pos (by omega), if_pos (.inr (List.drop_of_length_le (by omega)))]
          rfl
        · have hne : s.data.toList.drop (i + 1) ≠ [] := fun e => by
            have := congrArg List.length e
            rw [List.length_drop, List.length_nil] at this
            omega
          rw [if_neg (by omega), if_neg (by simp [h0, hne]), i1]
    · have hc' : ¬ ((s.data.toList[i]).toNat : Int) = 46 := fun e => hc (UInt8.toNat.inj (by have : (46 : UInt8).toNat = 46 := rfl; omega))
      rw [if_neg hc', if_neg hc]
      cases hsg : signB s.data.toList[i] with
      | true => rw [if_pos rfl, if_pos rfl, i2]
      | false => rw [if_neg (by decide), if_neg (by decide)]; rfl
theorem not_sign_46 : signB 46 = false := rfl
theorem nm_more (l : List UInt8) : ∀ p, (l.all signB = true → nm false p l = some p) ∧ (l.all signB = false → nm false p l = none ∨ ∃ q, p < q ∧ nm false p l = some q) := by
  induction l with
  | nil => intro p; exact ⟨fun _ => rfl, fun h => by simp at h⟩
  | cons c l ih =>
    intro p
    simp only [List.all_cons, nm]
    by_cases hc : c = 46
    · subst hc
      rw [if_pos rfl, not_sign_46]
      refine ⟨fun h => by simp at h, fun _ => ?_⟩
      by_cases hl : l = []
      · rw [if_pos (.inr hl)]; exact .inl rfl
      · rw [if_neg (by simp [hl])]
        cases ha : l.all signB with
        | true => exact .inr ⟨p + 1, by omega, (ih (p + 1)).1 ha⟩
        | false =>
          rcases (ih (p + 1)).2 ha with h | ⟨q, hq, h⟩
          · exact .inl h
          · exact .inr ⟨q, by omega, h⟩
    · rw [if_neg hc]
      cases hs : signB c with
      | true => rw [if_pos rfl, Bool.true_and]; exact ih p
      | false => rw [if_neg (by decide)]; exact ⟨fun h => by simp at h, fun _ => .inl rfl⟩
theorem nm_free (l : List UInt8) (h : 46 ∉ l) : ∀ f p, nm f p l = if l.all signB = true then some p else none := by
  induction l with
  | nil => intro f p; rfl
  | cons c l ih =>
    intro f p
    simp only [List.all_cons, nm]
    rw [if_neg (fun e => h (by rw [e]; exact List.mem_cons_self)), ih (fun hm => h (List.mem_cons_of_mem _ hm))]
    rcases Bool.eq_false_or_eq_true (signB c) with hs | hs <;> simp [hs]
theorem nm_point (a b : List UInt8) (h : 46 ∉ a) : ∀ f p, nm f p (a ++ 46 :: b) = if a.all signB = true ∧ (f = true → a ≠ []) ∧ b ≠ [] then nm false (p + 1) b else none := by
  induction a with
  | nil =>
    intro f p
    simp only [List.nil_append, nm, if_pos]
    by_cases hf : f = true
    · subst hf
      rw [if_pos (.inl rfl), if_neg (fun h => h.2.1 rfl rfl)]
    · by_cases hb : b = []
      · rw [if_pos (.inr hb), if_neg (fun h => h.2.2 hb)]
      · rw [if_neg (by simp [hf, hb]), if_pos ⟨rfl, fun e => absurd e hf, hb⟩]
  | cons c a ih =>
    intro f p
    rw [List.cons_append]
    simp only [List.all_cons, nm]
    rw [if_neg (fun e => h (by rw [e]; exact List.mem_cons_self)), ih (fun hm => h (List.mem_cons_of_mem _ hm))]
    rcases Bool.eq_false_or_eq_true (signB c) with hs | hs <;> simp [hs]
theorem split_first (c : UInt8) (l : List UInt8) (h : c ∈ l) : ∃ a b, l = a ++ c :: b ∧ c ∉ a := by
  induction l with
  | nil => simp at h
  | cons x l ih =>
    by_cases hx : x = c
    · exact ⟨[], l, by rw [hx]; rfl, by simp⟩
    · obtain ⟨a, b, h1, h2⟩ := ih ((List.mem_cons.1 h).resolve_left (fun e => hx e.symm))
      exact ⟨x :: a, b, by rw [h1, List.cons_append], by simp [h2, Ne.symm hx]⟩
theorem index_first (c : UInt8) (a b : List UInt8) (h : c ∉ a) : index (a ++ c :: b) [c] = (a.length : Int) := by
  induction a with
  | nil => rw [List.nil_append, index_cons_eq]; rfl
  | cons x a ih =>
    have hx : x ≠ c := fun e => h (by rw [e]; exact List.mem_cons_self)
    rw [List.cons_append, index_cons_ne _ x c hx, ih (fun hm => h (List.mem_cons_of_mem _ hm)), if_neg (by simp), List.length_cons]
    omega
theorem index_free (c : UInt8) (a : List UInt8) (h : c ∉ a) : index a [c] = -1 := by
  induction a with
  | nil => rfl
  | cons x a ih =>
    have hx : x ≠ c := fun e => h (by rw [e]; exact List.mem_cons_self)
    rw [index_cons_ne _ x c hx, ih (fun hm => h (List.mem_cons_of_mem _ hm))]
    rfl
theorem kind_nm (l : List UInt8) : nmEnd l.length (nm true 0 l) = kindL l := by
  unfold kindL
  by_cases hm : 46 ∈ l
  · obtain ⟨a, b, rfl, ha⟩ := split_first 46 l hm
    have hc : cut (a ++ 46 :: b) [46] = (a, b, true) := by
      unfold cut
      rw [index_first 46 a b ha, if_pos (by omega)]
      simp
    rw [hc, nm_point a b ha]
    dsimp only
    by_cases h24 : 24 < (a ++ 46 :: b).length
    · rw [if_pos h24]
      split
      · cases nm false (0 + 1) b with
        | none => rfl
        | some p => unfold nmEnd; dsimp only; rw [if_neg (by omega), if_pos h24]
      · rfl
    · rw [if_neg h24]
      have h0 : (a ++ 46 :: b).length ≠ 0 := by simp
      by_cases hpa : plainL a = true
      · have hpa' := hpa
        unfold plainL at hpa'
        simp only [Bool.and_eq_true, Bool.not_eq_true', List.isEmpty_eq_false_iff] at hpa'
        have hR : (if plainL a = false then (0 : Int) else if true = false then 1 else if plainL b = true then 2 else 0) = if plainL b = true then 2 else 0 := by rw [if_neg (by rw [hpa]; decide), if_neg (by decide)]
        rw [hR]
        by_cases hb : b = []
        · subst hb
          rw [if_neg (fun h => h.2.2 rfl)]
          rfl
        · rw [if_pos ⟨hpa'.1, fun _ => hpa'.2, hb⟩]
          have hbe : b.isEmpty = false := List.isEmpty_eq_false_iff.2 hb
          cases hab : b.all signB with
          | true =>
            rw [(nm_more b (0 + 1)).1 hab, if_pos (by unfold plainL; rw [hab, hbe]; rfl)]
            unfold nmEnd
            dsimp only
            rw [if_neg h0, if_neg h24, if_neg (by omega)]
            rfl
          | false =>
            rw [if_neg (by unfold plainL; rw [hab]; simp)]
            rcases (nm_more b (0 + 1)).2 hab with h | ⟨q, hq, h⟩
            · rw [h]; rfl
            · rw [h]
              unfold nmEnd
              dsimp only
              rw [if_neg h0, if_neg h24, if_pos (by omega)]
      · have hpf : plainL a = false := Bool.eq_false_iff.2 hpa
        have hR : (if plainL a = false then (0 : Int) else if true = false then 1 else if plainL b = true then 2 else 0) = 0 := if_pos hpf
        rw [hR, if_neg]
        · rfl
        · intro h
          apply hpa
          unfold plainL
          rw [h.1, List.isEmpty_eq_false_iff.2 (h.2.1 rfl)]
          rfl
  · have hc : cut l [46] = (l, [], false) := by
      unfold cut
      rw [index_free 46 l hm, if_neg (by decide)]
    rw [hc, nm_free l hm]
    dsimp only
    by_cases h24 : 24 < l.length
    · rw [if_pos h24]
      split
      · unfold nmEnd; dsimp only; rw [if_neg (by omega), if_pos h24]
      · rfl
    · rw [if_neg h24]
      by_cases h0 : l = []
      · subst h0; rfl
      · have hl : l.length ≠ 0 := fun e => h0 (List.eq_nil_of_length_eq_zero e)
        have he : l.isEmpty = false := List.isEmpty_eq_false_iff.2 h0
        unfold plainL
        rw [he]
        cases ha : l.all signB with
        | true =>
          rw [if_pos rfl, if_neg (by decide), if_pos rfl]
          unfold nmEnd
          dsimp only
          rw [if_neg hl, if_neg h24, if_neg (by omega)]
          rfl
        | false => rw [if_neg (by decide), if_pos rfl]; rfl
theorem refname (s : ByteArray) (hs : s.size ≤ 65536) (k : Nat) (hk : s.size < k) : aquiferref05_name.f k s = some (kindL s.data.toList) := by
  have h := name_loop s hs s.data.toList.length 0 k 0 (by omega) (by have : s.data.toList.length = s.size := rfl; omega) (Nat.le_refl _)
  rw [List.drop_zero] at h
  unfold aquiferref05_name.f
  rw [← kind_nm]
  exact h
theorem kindsL_cons (n : List UInt8) (l : List (List UInt8)) (k : Int) : kindsL (n :: l) k = if kindL n = 0 then none else if kindL n = 2 ∧ l ≠ [] then none else kindsL l (kindL n) := rfl
theorem kindsL_last (l : List (List UInt8)) : ∀ k r, kindsL l k = some r → r = match l.getLast? with | none => k | some n => kindL n := by
  induction l with
  | nil => intro k r h; simp [kindsL] at h; simp [h]
  | cons n l ih =>
    intro k r h
    unfold kindsL at h
    split at h
    · cases h
    · split at h
      · cases h
      · have := ih _ _ h
        rw [this]
        cases l with
        | nil => rfl
        | cons m l => rw [List.getLast?_cons_cons]; cases hg : (m :: l).getLast? with
          | none => simp at hg
          | some x => rfl
theorem kind_loop (p : ByteArray) (hp : p.size ≤ 65536) (M : List ByteArray) (hM : M.map (·.data.toList) = names p.data.toList) (d : Nat) : ∀ (i k : Nat) (last : Int), i + d = M.length → p.size + d + 1 < k → (i = 0 ∨ ∃ h : i - 1 < M.length, last = kindL M[i - 1].data.toList) → kindsL ((M.drop i).map (·.data.toList)) last = kindsL (names p.data.toList) 0 → aquiferref05_Kind.l0 k M (i : Int) = some (match kindsL (names p.data.toList) 0 with
    | none => (0, 18)
    | some r => if 8 < (names p.data.toList).length then (0, 7) else (r, 0)) := by
  have hne := names_ne p.data.toList
  have hml : M.length = (names p.data.toList).length := by rw [← hM, List.length_map]
  have hpos : 0 < M.length := by rw [hml]; exact List.length_pos_iff.2 hne
  have hnl := names_len p.data.toList
  have hps : p.data.toList.length = p.size := rfl
  have hsz : ∀ x ∈ M, x.size ≤ p.size := fun x hx => by
    have h1 := names_size p.data.toList x.data.toList (by rw [← hM]; exact List.mem_map_of_mem hx)
    have h3 : x.data.toList.length = x.size := rfl
    omega
  induction d with
  | zero =>
    intro i k last h hk hl hr
    obtain ⟨k, rfl⟩ : ∃ q, k = q + 1 := ⟨k - 1, by omega⟩
    rw [List.drop_of_length_le (by omega)] at hr
    simp only [List.map_nil, kindsL] at hr
    rw [← hr]
    unfold aquiferref05_Kind.l0
    dsimp only
    rw [if_neg (by omega)]
    by_cases h8 : 8 < (names p.data.toList).length
    · rw [if_pos (by omega), if_pos h8]
    · have hw : wrap64 ((M.length : Int) - 1) = ((M.length - 1 : Nat) : Int) := by unfold wrap64; omega
      rw [if_neg (by omega), if_neg h8, hw, if_pos (by omega), if_pos (by omega), rdB M (M.length - 1) (by omega), refname _ (by have := hsz _ (List.getElem_mem (show M.length - 1 < M.length by omega)); omega) k (by have := hsz _ (List.getElem_mem (show M.length - 1 < M.length by omega)); omega), Option.bind_some]
      rcases hl with hl | ⟨hi, hl⟩
      · omega
      · have : i = M.length := by omega
        subst this
        rw [hl]
  | succ d ih =>
    intro i k last h hk hl hr
    obtain ⟨k, rfl⟩ : ∃ q, k = q + 1 := ⟨k - 1, by omega⟩
    have hi : i < M.length := by omega
    have hsi := hsz _ (List.getElem_mem hi)
    rw [List.drop_eq_getElem_cons hi, List.map_cons] at hr
    rw [kindsL_cons] at hr
    unfold aquiferref05_Kind.l0
    rw [if_pos (by omega), if_pos (by omega), rdB M i hi, refname _ (by omega) k (by omega), Option.bind_some, wr1 i (by omega), Option.bind_some]
    by_cases h0 : kindL M[i].data.toList = 0
    · rw [if_pos h0] at hr ⊢
      rw [← hr]
    · rw [if_neg h0] at hr ⊢
      by_cases h2 : kindL M[i].data.toList = 2
      · rw [if_pos h2]
        by_cases hlast : i + 1 < M.length
        · rw [if_pos ⟨h2, fun e => by
            have := congrArg List.length e
            rw [List.length_map, List.length_drop, List.length_nil] at this
            omega⟩] at hr
          rw [if_pos (by omega), ← hr]
        · rw [if_neg (fun hh => hh.2 (by rw [List.drop_of_length_le (by omega)]; rfl))] at hr
          rw [if_neg (by omega)]
          exact ih (i + 1) k _ (by omega) (by omega) (.inr ⟨by omega, rfl⟩) hr
      · rw [if_neg (fun hh => h2 hh.1)] at hr
        rw [if_neg h2]
        exact ih (i + 1) k _ (by omega) (by omega) (.inr ⟨by omega, rfl⟩) hr
theorem refkind (p : ByteArray) (hp : p.size ≤ 65536) (k : Nat) (hk : 300 ≤ k) : aquiferref05_Kind.f k p = some (kindS p) := by
  unfold aquiferref05_Kind.f kindS
  by_cases h96 : 96 < p.size
  · rw [if_pos (by omega), if_pos h96]
  · rw [if_neg (by omega), if_neg h96]
    by_cases h0 : p.size = 0
    · rw [if_pos ((size_zero_list p).2 h0), if_pos h0]
    · rw [if_neg (fun e => h0 ((size_zero_list p).1 e)), if_neg h0]
      obtain ⟨M, hf, hM⟩ := refnames p hp k (by omega)
      have hnl := names_len p.data.toList
      have hml : M.length = (names p.data.toList).length := by rw [← hM, List.length_map]
      have hps : p.data.toList.length = p.size := rfl
      rw [hf, Option.bind_some]
      exact kind_loop p hp M hM M.length 0 k 0 (by omega) (by omega) (.inl rfl) (by rw [List.drop_zero, hM])
end Go.Proofs.YtjllbkeobibnkaaDoor.Q

namespace Go.Proofs.YtjllbkeobibnkaaDoor.Q
open Go Go.Proofs Go.Shelf Go.RowKit Go.Lib Go.Sort Go.Proofs.YtjllbkeobibnkaaDoorP Go.Proofs.YtjllbkeobibnkaaDoorK Go.Proofs.YtjllbkeobibnkaaDoorW.PrintWords Go.Proofs.YtjllbkeobibnkaaDoorW.PrintLast Go.Proofs.YtjllbkeobibnkaaDoorW.PrintMore
set_option linter.unusedSimpArgs false
set_option linter.unusedVariables false
/-! ### merge.list -/
def okK (least : Int) (k : S58) : Bool := decide (kindS k.f0 = (2, 0)) && (decide (0 ≤ k.f1.f1) && (decide (k.f1.f1 ≤ 4096) && (decide (least ≤ k.f1.f0) && decide (k.f1.f0 ≤ 1099511627776))))
def listA (least : Int) : Option ByteArray → List S58 → Bool
  | _, [] => true
  | q, k :: l => okK least k && ((match q with | none => true | some y => decide (pcmp y k.f0 < 0)) && listA least (some k.f0) l)
def prevK (l : List S58) : Nat → Option ByteArray
  | 0 => none
  | j + 1 => l[j]?.map (·.f0)
def shortK (l : List S58) : Bool := decide (l.length ≤ 1048576) && l.all fun k => decide (k.f0.size ≤ 65536)
theorem shortK_open {l : List S58} (h : shortK l = true) : l.length ≤ 1048576 ∧ ∀ k ∈ l, k.f0.size ≤ 65536 := by
  unfold shortK at h
  simpa using h
attribute [local go_sem] A51_size A51_0 A51_1 A51_g0 A51_g1 A58_size A58_0 A58_1 A58_2 A58_g0 A58_g1 A58_g2 cell_held frozen_held
attribute [local go_sem] zero51 zero58 zero65
attribute [local go_sem ↓ high] lvx_of
attribute [local go_sem] lv_sc lv24 lv33
attribute [local go_sem ↓ high] lv51 lv51s lv58 lv58a lv65 lv65a lv65l lv65r sc51 sc58 sc65 sc65a sc65l sc65r sc58a
set_option maxRecDepth 100000 in
set_option maxHeartbeats 4000000 in
theorem list_any (w : World) (A : Option Addr) (c : Nat) (l : List S58) (least : Int) (hC : k58.C w A l.length l) (hs : shortK l = true) :
    Calls Tryd.prog 53 #[.slice A l.length c, .int .i64 least] w fun e w' => e = .returned (.bool (listA least none l)) ∧ Below w.heap.size w w' := by
  obtain ⟨hl, hsz⟩ := shortK_open hs
  have HR := Aside0.mk hC
  have HZ := Aside0.mk hsz
  have HB0 := Aside0.mk (Below.refl w.heap.size w)
  obtain ⟨R, hR⟩ : ∃ R, listA least none l = R := ⟨_, rfl⟩
  rw [hR]
  clear hC hs hsz
  go_enter Tryd.func53, Tryd.ntmps53
  go_wp2_with fail
  go_loopw [12] (fun i wr => ∃ j : Nat, j ≤ l.length ∧ i = .int .i64 (j : Int) ∧ Aside0 (listA least (prevK l j) (l.drop j) = R) ∧ Aside0 (Below w.heap.size w wr)) (fun i _ => l.length - (intOf i).toNat)
  case atStart => exact ⟨0, Nat.zero_le _, rfl, ⟨hR⟩, HB0⟩
  case round =>
    obtain ⟨j, hj, rfl, HI, HB⟩ := hrel
    have bw : Bel w.heap.size w wr := ⟨fun _ => HB.out⟩
    have ow : OwnB w.heap.size (.row wr.heap.size) := own_row HB.out.size
    by_cases hlt : j < l.length
    · obtain ⟨ad, e, x0⟩ := C58_at HR.out j hlt
      subst e
      have hd := List.drop_eq_getElem_cons hlt
      have hmem := List.getElem_mem hlt
      have hx := HZ.out _ hmem
      have hnext : prevK l (j + 1) = some l[j].f0 := by show l[j]?.map (·.f0) = _; rw [List.getElem?_eq_getElem hlt]; rfl
      have hI := HI.out
      rw [hd] at hI
      simp only [listA] at hI
      rw [← hnext] at hI
      have HN := Aside0.mk hnext
      have hk := fun W => Kind_any W l[j].f0 hx
      generalize l[j] = x at x0 hI hk hx HN
      replace x0 := At_below x0 HB.out
      have X0 := Aside0.mk x0
      clear hd hmem HI x0 hnext
      cases hok : okK least x with
      | false =>
        rw [hok, Bool.false_and] at hI
        have HI := Aside0.mk hI
        have HK := Aside0.mk hk
        have HX := Aside0.mk hok
        clear hI hk hok hR hx
        go_wp2_with (refine seg_load rfl 58 (.tmp 15) rfl X0.out (A58 x) rfl rfl Tryd.underlying58 rfl (by rw [L58_len]; exact info58s) ?_)
        refine (HK.out _).mono ?_
        rintro e w1 ⟨rfl, hb1⟩
        have p1 := prev_call hb1
        clear hb1
        go_wp2_with fail
        case' _ =>
          have hv : (decide (x.f1.f0 ≤ 1099511627776)) = false := by
            have := HX.out
            unfold okK at this
            rw [decide_eq_true (Prod.ext (by assumption) (by assumption)), decide_eq_true (by assumption : 0 ≤ x.f1.f1), decide_eq_true (by assumption : x.f1.f1 ≤ 4096), decide_eq_true (by assumption : least ≤ x.f1.f0)] at this
            simpa using this
          simp only [hv]
        all_goals
          go_quiet (fail)
          go_wp2_with fail
          go_ret
          exact ⟨by rw [← HI.out]; rfl, bel _ _⟩
      | true =>
        rw [hok, Bool.true_and] at hI
        unfold okK at hok
        simp only [Bool.and_eq_true, decide_eq_true_eq] at hok
        obtain ⟨hk0, k1, k2, k3, k4⟩ := hok
        rw [hk0] at hk
        dsimp only at hk
        have HK := Aside0.mk hk
        clear hk hR hk0
        by_cases h0 : j = 0
        · subst h0
          simp only [prevK, Bool.true_and] at hI
          have HI := Aside0.mk hI
          clear hI hx
          go_wp2_with (refine seg_load rfl 58 (.tmp 15) rfl X0.out (A58 x) rfl rfl Tryd.underlying58 rfl (by rw [L58_len]; exact info58s) ?_)
          refine (HK.out _).mono ?_
          rintro e w1 ⟨rfl, hb1⟩
          have p1 := prev_call hb1
          clear hb1
          go_wp2_with fail
          go_quiet (fail)
          go_wp2_with fail
          go_roundw
          case rel => exact ⟨1, by omega, by go_num, HI, ⟨bel _ _⟩⟩
          case measure => simp [intOf]; omega
        · obtain ⟨i, hi⟩ : ∃ i, j = i + 1 := ⟨j - 1, by omega⟩
          have hil : i < l.length := by omega
          obtain ⟨ad2, e2, y0⟩ := C58_at HR.out i hil
          obtain rfl : ad = ad2 := Option.some.inj e2
          have hy := HZ.out _ (List.getElem_mem hil)
          have hp : prevK l j = some l[i].f0 := by rw [hi]; show l[i]?.map (·.f0) = _; rw [List.getElem?_eq_getElem hil]; rfl
          rw [hp] at hI
          generalize l[i] = y at y0 hI hy
          dsimp only at hI
          have hc := fun W => cmp_any W y.f0 x.f0 (by omega) (by omega)
          have HCP := Aside0.mk hc
          have hw1 : IntKind.i64.wrap ((j : Int) - 1) = (i : Int) := by rw [i64_w]; unfold wrap64; omega
          have Y0 := Aside0.mk (At_below y0 HB.out)
          have hj0 : 0 < (j : Int) := by omega
          have hj1 : decide ((0 : Int) < (j : Int)) = true := decide_eq_true hj0
          have hj2 : 0 < j := by omega
          have hj3 : (0 : Int) ≤ (i : Int) := by omega
          have hj4 : (i : Int) < (l.length : Int) := by omega
          have hj5 : i < l.length := hil
          have HJ := Aside0.mk hi
          clear hc hp y0 e2 hx hy hi h0
          have HII := Aside0.mk hI
          clear hI
          go_wp2_with (refine seg_load rfl 58 (.tmp 15) rfl X0.out (A58 x) rfl rfl Tryd.underlying58 rfl (by rw [L58_len]; exact info58s) ?_)
          refine (HK.out _).mono ?_
          rintro e w1 ⟨rfl, hb1⟩
          have p1 := prev_call hb1
          clear hb1
          have y1 := (At58 (At_below Y0.out (bel wr w1))).1
          rw [add_zero_] at y1
          go_wp2_with fail
          go_still_tail 14, (by kernel_rfl)
          change wpList _ _ _ _ _ w1.drew
          have p2 : Prev w1.drew w1 .none := inferInstance
          generalize w1.drew = w2 at p2 ⊢
          by_cases hc : pcmp y.f0 x.f0 < 0
          · have hI := HII.out
            rw [decide_eq_true hc, Bool.true_and] at hI
            have HI := Aside0.mk hI
            have hge : ¬ (0 ≤ pcmp y.f0 x.f0) := by omega
            clear hc hI
            go_wp2_with fail
            refine (HCP.out _).mono ?_
            rintro e w3 ⟨rfl, q, os, hb⟩
            have p3 : Prev w3 w2 .none := prev_call (hb ▸ grow_below w2 q os)
            clear hb
            go_wp2_with fail
            go_roundw
            case rel => exact ⟨j + 1, by omega, by go_num, HI, ⟨bel _ _⟩⟩
            case measure => simp [intOf]; omega
          · have hI := HII.out
            rw [decide_eq_false hc, Bool.false_and] at hI
            have HI := Aside0.mk hI
            have hge : (0 ≤ pcmp y.f0 x.f0) := by omega
            clear hc hI
            go_wp2_with fail
            refine (HCP.out _).mono ?_
            rintro e w3 ⟨rfl, q, os, hb⟩
            have p3 : Prev w3 w2 .none := prev_call (hb ▸ grow_below w2 q os)
            clear hb
            go_wp2_with fail
            go_ret
            exact ⟨by rw [← HI.out]; rfl, bel _ _⟩
    · have hI := HI.out
      rw [List.drop_of_length_le (by omega)] at hI
      have HI' := Aside0.mk hI
      clear hI HI
      go_wp2_with fail
      go_ret
      exact ⟨by rw [← HI'.out]; rfl, HB.out⟩
end Go.Proofs.YtjllbkeobibnkaaDoor.Q

namespace Go.Proofs.YtjllbkeobibnkaaDoor.Q
open Go Go.Proofs Go.Shelf Go.RowKit Go.Lib Go.Sort Go.Proofs.YtjllbkeobibnkaaDoorP Go.Proofs.YtjllbkeobibnkaaDoorK Go.Proofs.YtjllbkeobibnkaaDoorW.PrintWords Go.Proofs.YtjllbkeobibnkaaDoorW.PrintLast Go.Proofs.YtjllbkeobibnkaaDoorW.PrintMore
set_option linter.unusedSimpArgs false
set_option linter.unusedVariables false
/-! ### The document's Kind, Compare; its list -/
theorem rKind_any (w : World) (p : ByteArray) (hp : p.size ≤ 65536) : Calls Tryd.prog 66 #[.string p] w fun e w' => e = .returned (.tuple #[.int .i64 (kindS p).1, .int .i64 (kindS p).2]) ∧ Below w.heap.size w w' :=
  aquiferref05_Kind.calls (p.size + 300) p _ _ w (refkind p hp _ (by omega))
theorem rCmp_any (w : World) (a b : ByteArray) (ha : a.size ≤ 65536) (hb : b.size ≤ 65536) : Calls Tryd.prog 67 #[.string a, .string b] w fun e w' => e = .returned (.int .i64 (pcmp a b)) ∧ Below w.heap.size w w' :=
  aquiferref05_Compare.calls (2 * a.size + b.size + 300) a b _ w (refcompare a b ha hb _ (by omega) (by omega))
attribute [local go_sem] A51_size A51_0 A51_1 A51_g0 A51_g1 A58_size A58_0 A58_1 A58_2 A58_g0 A58_g1 A58_g2 cell_held frozen_held
attribute [local go_sem] zero51 zero58 zero65
attribute [local go_sem ↓ high] lvx_of
attribute [local go_sem] lv_sc lv24 lv33
attribute [local go_sem ↓ high] lv51 lv51s lv58 lv58a lv65 lv65a lv65l lv65r sc58 sc65 sc65a sc65l sc65r sc58a
set_option maxRecDepth 100000 in
set_option maxHeartbeats 4000000 in
theorem rlist_any (w : World) (A : Option Addr) (c : Nat) (l : List S58) (least : Int) (hC : k58.C w A l.length l) (hs : shortK l = true) :
    Calls Tryd.prog 55 #[.slice A l.length c, .int .i64 least] w fun e w' => e = .returned (.bool (listA least none l)) ∧ Below w.heap.size w w' := by
  obtain ⟨hl, hsz⟩ := shortK_open hs
  have HR := Aside0.mk hC
  have HZ := Aside0.mk hsz
  have HB0 := Aside0.mk (Below.refl w.heap.size w)
  obtain ⟨R, hR⟩ : ∃ R, listA least none l = R := ⟨_, rfl⟩
  rw [hR]
  clear hC hs hsz
  go_enter Tryd.func55, Tryd.ntmps55
  go_wp2_with fail
  go_loopw [5] (fun i wr => ∃ j : Nat, j ≤ l.length ∧ i = .int .i64 (j : Int) ∧ Aside0 (listA least (prevK l j) (l.drop j) = R) ∧ Aside0 (Below w.heap.size w wr)) (fun i _ => l.length - (intOf i).toNat)
  case atStart => exact ⟨0, Nat.zero_le _, rfl, ⟨hR⟩, HB0⟩
  case round =>
    obtain ⟨j, hj, rfl, HI, HB⟩ := hrel
    have bw : Bel w.heap.size w wr := ⟨fun _ => HB.out⟩
    have ow : OwnB w.heap.size (.row wr.heap.size) := own_row HB.out.size
    by_cases hlt : j < l.length
    · obtain ⟨ad, e, x0⟩ := C58_at HR.out j hlt
      subst e
      have hd := List.drop_eq_getElem_cons hlt
      have hmem := List.getElem_mem hlt
      have hx := HZ.out _ hmem
      have hnext : prevK l (j + 1) = some l[j].f0 := by show l[j]?.map (·.f0) = _; rw [List.getElem?_eq_getElem hlt]; rfl
      have hI := HI.out
      rw [hd] at hI
      simp only [listA] at hI
      rw [← hnext] at hI
      have HN := Aside0.mk hnext
      have hk := fun W => rKind_any W l[j].f0 hx
      generalize l[j] = x at x0 hI hk hx HN
      replace x0 := At_below x0 HB.out
      have X0 := Aside0.mk x0
      clear hd hmem HI x0 hnext
      cases hok : okK least x with
      | false =>
        rw [hok, Bool.false_and] at hI
        have HI := Aside0.mk hI
        have HK := Aside0.mk hk
        have HX := Aside0.mk hok
        clear hI hk hok hR hx
        have x1 := (At58 X0.out).1
        rw [add_zero_] at x1
        go_wp2_with fail
        refine (HK.out _).mono ?_
        rintro e w1 ⟨rfl, hb1⟩
        have p1 := prev_call hb1
        clear hb1
        have ow1 : OwnB w.heap.size (.row w1.heap.size) := own_row (by have := HB.out.size; have := p1.out.size; omega)
        have ow2 : OwnB wr.heap.size (.row w1.heap.size) := own_row p1.out.size
        have X1 := Aside0.mk (At58 (At_below X0.out (bel wr w1))).2.2.2.1
        go_wp2_with (first
          | (refine seg_load rfl 51 (.tmp 27) rfl X1.out (A51 x.f1) rfl rfl Tryd.underlying51 rfl (by rw [L51_len]; exact info51s) ?_)
          | (refine box_store rfl rfl 51 (.tmp 8) (.tmp 28) rfl held (A51 x.f1) rfl rfl (by rw [A51_size]; exact info51s) (by rw [A51_size, A51_size]) (A51_all _) ?_
             intro wz hxz hgz
             have pz := prev_row hgz
             have hz : Go.Proofs.YtjllbkeobibnkaaDoorK.Holds wz w1.heap.size (.cells (A51 x.f1) 51) := ⟨hxz⟩
             clear hxz hgz))
        all_goals first
          | (exfalso
             have hx := HX.out
             unfold okK at hx
             rw [decide_eq_true (show kindS x.f0 = (2, 0) from Prod.ext (by assumption) (by assumption)), decide_eq_true (show 0 ≤ x.f1.f1 by omega), decide_eq_true (show x.f1.f1 ≤ 4096 by omega), decide_eq_true (show least ≤ x.f1.f0 by omega), decide_eq_true (show x.f1.f0 ≤ 1099511627776 by omega)] at hx
             exact absurd hx (by decide))
          | (go_ret
             exact ⟨by rw [← HI.out]; rfl, bel _ _⟩)
      | true =>
        rw [hok, Bool.true_and] at hI
        unfold okK at hok
        simp only [Bool.and_eq_true, decide_eq_true_eq] at hok
        obtain ⟨hk0, k1, k2, k3, k4⟩ := hok
        rw [hk0] at hk
        dsimp only at hk
        have HK := Aside0.mk hk
        clear hk hR hk0
        by_cases h0 : j = 0
        · subst h0
          simp only [prevK, Bool.true_and] at hI
          have HI := Aside0.mk hI
          clear hI hx
          have x1 := (At58 X0.out).1
          rw [add_zero_] at x1
          try rw [Nat.zero_mul, add_zero_] at x1
          go_wp2_with fail
          refine (HK.out _).mono ?_
          rintro e w1 ⟨rfl, hb1⟩
          have p1 := prev_call hb1
          clear hb1
          have ow1 : OwnB w.heap.size (.row w1.heap.size) := own_row (by have := HB.out.size; have := p1.out.size; omega)
          have ow2 : OwnB wr.heap.size (.row w1.heap.size) := own_row p1.out.size
          have X1 := Aside0.mk (At58 (At_below X0.out (bel wr w1))).2.2.2.1
          go_wp2_with (first
            | (refine seg_load rfl 51 (.tmp 27) rfl X1.out (A51 x.f1) rfl rfl Tryd.underlying51 rfl (by rw [L51_len]; exact info51s) ?_)
            | (refine box_store rfl rfl 51 (.tmp 8) (.tmp 28) rfl held (A51 x.f1) rfl rfl (by rw [A51_size]; exact info51s) (by rw [A51_size, A51_size]) (A51_all _) ?_
               intro wz hxz hgz
               have pz := prev_row hgz
               have hz : Go.Proofs.YtjllbkeobibnkaaDoorK.Holds wz w1.heap.size (.cells (A51 x.f1) 51) := ⟨hxz⟩
               clear hxz hgz))
          go_quiet (fail)
          go_wp2_with fail
          go_roundw
          case rel => exact ⟨1, by omega, by go_num, HI, ⟨bel _ _⟩⟩
          case measure => simp [intOf]; omega
        · obtain ⟨i, hi⟩ : ∃ i, j = i + 1 := ⟨j - 1, by omega⟩
          have hil : i < l.length := by omega
          obtain ⟨ad2, e2, y0⟩ := C58_at HR.out i hil
          obtain rfl : ad = ad2 := Option.some.inj e2
          have hy := HZ.out _ (List.getElem_mem hil)
          have hp : prevK l j = some l[i].f0 := by rw [hi]; show l[i]?.map (·.f0) = _; rw [List.getElem?_eq_getElem hil]; rfl
          rw [hp] at hI
          generalize l[i] = y at y0 hI hy
          dsimp only at hI
          have hc := fun W => rCmp_any W y.f0 x.f0 hy hx
          have HCP := Aside0.mk hc
          have hw1 : IntKind.i64.wrap ((j : Int) - 1) = (i : Int) := by rw [i64_w]; unfold wrap64; omega
          have Y0 := Aside0.mk (At_below y0 HB.out)
          have hj0 : 0 < (j : Int) := by omega
          have hj1 : decide ((0 : Int) < (j : Int)) = true := decide_eq_true hj0
          have hj2 : 0 < j := by omega
          have hj3 : (0 : Int) ≤ (i : Int) := by omega
          have hj4 : (i : Int) < (l.length : Int) := by omega
          have hj5 : i < l.length := hil
          have HJ := Aside0.mk hi
          clear hc hp y0 e2 hx hy hi h0
          have HII := Aside0.mk hI
          clear hI
          have x1 := (At58 X0.out).1
          rw [add_zero_] at x1
          try rw [Nat.zero_mul, add_zero_] at x1
          go_wp2_with fail
          refine (HK.out _).mono ?_
          rintro e w1 ⟨rfl, hb1⟩
          have p1 := prev_call hb1
          clear hb1
          have ow1 : OwnB w.heap.size (.row w1.heap.size) := own_row (by have := HB.out.size; have := p1.out.size; omega)
          have ow2 : OwnB wr.heap.size (.row w1.heap.size) := own_row p1.out.size
          have X1 := Aside0.mk (At58 (At_below X0.out (bel wr w1))).2.2.2.1
          go_wp2_with (first
            | (refine seg_load rfl 51 (.tmp 27) rfl X1.out (A51 x.f1) rfl rfl Tryd.underlying51 rfl (by rw [L51_len]; exact info51s) ?_)
            | (refine box_store rfl rfl 51 (.tmp 8) (.tmp 28) rfl held (A51 x.f1) rfl rfl (by rw [A51_size]; exact info51s) (by rw [A51_size, A51_size]) (A51_all _) ?_
               intro wz hxz hgz
               have pz := prev_row hgz
               have hz : Go.Proofs.YtjllbkeobibnkaaDoorK.Holds wz w1.heap.size (.cells (A51 x.f1) 51) := ⟨hxz⟩
               have y1 := (At58 (At_below Y0.out (bel wr wz))).1
               rw [add_zero_] at y1
               have x2 := (At58 (At_below X0.out (bel wr wz))).1
               rw [add_zero_] at x2
               clear hxz hgz))
          rename World => wz
          go_still_tail 14, (by kernel_rfl)
          change wpList _ _ _ _ _ wz.drew
          have p2 : Prev wz.drew wz .none := inferInstance
          generalize wz.drew = w2 at p2 ⊢
          by_cases hc : pcmp y.f0 x.f0 < 0
          · have hI := HII.out
            rw [decide_eq_true hc, Bool.true_and] at hI
            have HI := Aside0.mk hI
            have hge : ¬ (0 ≤ pcmp y.f0 x.f0) := by omega
            clear hc hI
            go_wp2_with fail
            refine (HCP.out _).mono ?_
            rintro e w3 ⟨rfl, hb⟩
            have p3 := prev_call hb
            clear hb
            go_wp2_with fail
            go_roundw
            case rel => exact ⟨j + 1, by omega, by go_num, HI, ⟨bel _ _⟩⟩
            case measure => simp [intOf]; omega
          · have hI := HII.out
            rw [decide_eq_false hc, Bool.false_and] at hI
            have HI := Aside0.mk hI
            have hge : (0 ≤ pcmp y.f0 x.f0) := by omega
            clear hc hI
            go_wp2_with fail
            refine (HCP.out _).mono ?_
            rintro e w3 ⟨rfl, hb⟩
            have p3 := prev_call hb
            clear hb
            go_wp2_with fail
            go_ret
            exact ⟨by rw [← HI.out]; rfl, bel _ _⟩
    · have hI := HI.out
      rw [List.drop_of_length_le (by omega)] at hI
      have HI' := Aside0.mk hI
      clear hI HI
      go_wp2_with fail
      go_ret
      exact ⟨by rw [← HI'.out]; rfl, HB.out⟩
end Go.Proofs.YtjllbkeobibnkaaDoor.Q

namespace Go.Proofs.YtjllbkeobibnkaaDoor.Q
open Go Go.Proofs Go.Shelf Go.RowKit Go.Lib Go.Sort Go.Proofs.YtjllbkeobibnkaaDoorP Go.Proofs.YtjllbkeobibnkaaDoorK Go.Proofs.YtjllbkeobibnkaaDoorW.PrintWords Go.Proofs.YtjllbkeobibnkaaDoorW.PrintLast Go.Proofs.YtjllbkeobibnkaaDoorW.PrintMore
set_option linter.unusedSimpArgs false
set_option linter.unusedVariables false
/-! ### merge.Check -/
/-- Both sides have a version, but unlike. -/
def badK (R : List S58) (k : S58) : Bool := (findS R k.f0).2 && (((findS R k.f0).1.f0 == k.f1.f0) && !alikeS (findS R k.f0).1 k.f1)
def listsS (s : S24) : Bool := listA 1 none s.f0 && (listA 0 none s.f1 && listA 1 none s.f2)
def checkS (s : S24) : Int := if listsS s = true then (if s.f0.any (badK s.f2) = true then 2 else 0) else 2
/-- Sides that are not too long. -/
def okS (s : S24) : Bool := shortK s.f0 && (shortK s.f1 && shortK s.f2)
theorem okS_open {s : S24} (h : okS s = true) : shortK s.f0 = true ∧ shortK s.f1 = true ∧ shortK s.f2 = true := by
  unfold okS at h
  simpa using h
theorem okS_short {s : S24} (h : okS s = true) : shortS s = true := by
  obtain ⟨h1, h2, h3⟩ := okS_open h
  unfold shortS
  rw [decide_eq_true (shortK_open h1).1, decide_eq_true (shortK_open h2).1, decide_eq_true (shortK_open h3).1]
  rfl
attribute [local go_sem] A51_size A51_0 A51_1 A51_g0 A51_g1 A58_size A58_0 A58_1 A58_2 A58_g0 A58_g1 A58_g2 cell_held frozen_held
attribute [local go_sem] zero51 zero58 zero65
attribute [local go_sem ↓ high] lvx_of
attribute [local go_sem] lv_sc lv24 lv33
attribute [local go_sem ↓ high] lv51 lv51s lv58 lv58a lv65 lv65a lv65l lv65r sc51 sc58 sc65 sc65a sc65l sc65r sc58a
set_option maxRecDepth 100000 in
set_option maxHeartbeats 4000000 in
theorem Check_any (w : World) (s : S24) (v : Array Value) (hs : SideIn w s v) (ho : okS s = true) :
    Calls Tryd.prog 25 #[.agg v] w fun e w' => e = .returned (.int .i64 (checkS s)) ∧ Below w.heap.size w w' := by
  obtain ⟨A, c, B, d, C, e, rfl, l1, l2, l3, h1, h2, h3⟩ := hs.out
  obtain ⟨m1, m2, m3⟩ := okS_open ho
  have n1 := (shortK_open m1).1
  have n3 := (shortK_open m3).1
  have HL0 := Aside0.mk (fun W (hb : Below w.heap.size w W) => list_any W A c s.f0 1 (Kd.C_below h1 hb) m1)
  have HL1 := Aside0.mk (fun W (hb : Below w.heap.size w W) => list_any W B d s.f1 0 (Kd.C_below h2 hb) m2)
  have HL2 := Aside0.mk (fun W (hb : Below w.heap.size w W) => list_any W C e s.f2 1 (Kd.C_below h3 hb) m3)
  have HF := Aside0.mk (fun W p (hb : Below w.heap.size w W) => Find_any W C e s.f2 p (Kd.C_below h3 hb) n3)
  have HC := Aside0.mk h1
  obtain ⟨V, hV⟩ : ∃ V, checkS s = V := ⟨_, rfl⟩
  rw [hV]
  unfold checkS listsS at hV
  clear hs ho l1 l2 l3 h1 h2 h3 m1 m2 m3 n3
  generalize s.f0 = la at *
  generalize s.f1 = lb at *
  generalize s.f2 = lc at *
  generalize listA 1 none la = b0 at *
  generalize listA 0 none lb = b1 at *
  generalize listA 1 none lc = b2 at *
  have HV := Aside0.mk hV
  clear hV
  go_enter Tryd.func25, Tryd.ntmps25
  go_wp2_with fail
  refine (HL0.out _ (bel _ _)).mono ?_
  rintro r1 w1 ⟨rfl, hb⟩
  have p1 := prev_call hb
  clear hb
  cases b0
  · go_wp2_with fail
    go_ret
    exact ⟨by rw [← HV.out]; rfl, bel _ _⟩
  go_wp2_with fail
  refine (HL1.out _ (bel _ _)).mono ?_
  rintro r2 w2 ⟨rfl, hb⟩
  have p2 := prev_call hb
  clear hb
  cases b1
  · go_wp2_with fail
    go_ret
    exact ⟨by rw [← HV.out]; rfl, bel _ _⟩
  go_wp2_with fail
  refine (HL2.out _ (bel _ _)).mono ?_
  rintro r3 w3 ⟨rfl, hb⟩
  have p3 := prev_call hb
  clear hb
  cases b2
  · go_wp2_with fail
    go_ret
    exact ⟨by rw [← HV.out]; rfl, bel _ _⟩
  have hV := HV.out
  simp only [Bool.and_self, if_true] at hV
  have HV := Aside0.mk hV
  clear hV
  go_wp2_with fail
  go_loopw [26] (fun i wr => ∃ j : Nat, j ≤ la.length ∧ i = .int .i64 (j : Int) ∧ Aside0 ((if (la.drop j).any (badK lc) = true then (2 : Int) else 0) = V) ∧ Aside0 (Below w3.heap.size w3 wr)) (fun i _ => la.length - (intOf i).toNat)
  case atStart => exact ⟨0, Nat.zero_le _, rfl, HV, ⟨Below.refl _ _⟩⟩
  case round =>
    obtain ⟨j, hj, rfl, HI, HB⟩ := hrel
    have pr := prev_call HB.out
    have bw : Bel w.heap.size w wr := inferInstance
    by_cases hlt : j < la.length
    · obtain ⟨ad, e0, x0⟩ := C58_at HC.out j hlt
      subst e0
      have hI := HI.out
      rw [List.drop_eq_getElem_cons hlt, List.any_cons] at hI
      generalize la[j] = x at x0 hI
      replace x0 := At_below x0 (bel w wr)
      have X0 := Aside0.mk x0
      have HFX := Aside0.mk (fun W hb => HF.out W x.f0 hb)
      unfold badK at hI
      generalize findS lc x.f0 = f at HFX hI
      obtain ⟨r, b⟩ := f
      dsimp only at HFX hI
      have ow : OwnB w.heap.size (.row wr.heap.size) := own_row (siz w wr)
      have aw : Apart w.heap.size (.row wr.heap.size) := apart_ne (by have := (inferInstance : Size (w.heap.size + 1) wr).out; omega)
      have ow3 : OwnB w3.heap.size (.row wr.heap.size) := own_row HB.out.size
      have HII := Aside0.mk hI
      clear x0 hI HI
      go_wp2_with (refine seg_load rfl 58 (.tmp 28) rfl X0.out (A58 x) rfl rfl Tryd.underlying58 rfl (by rw [L58_len]; exact info58s) ?_)
      refine (HFX.out _ (bel _ _)).mono ?_
      rintro r4 w4 ⟨rfl, hb⟩
      have p4 := prev_call hb
      clear hb
      have ow4 : OwnB w.heap.size (.row w4.heap.size) := own_row (siz w w4)
      have ow5 : OwnB w3.heap.size (.row w4.heap.size) := own_row (siz w3 w4)
      have aw4 : Apart wr.heap.size (.row w4.heap.size) := apart_ne (by have := (inferInstance : Size (wr.heap.size + 1) w4).out; omega)
      cases b with
      | false =>
        have hI := HII.out
        simp only [Bool.false_and, Bool.false_or] at hI
        have HI := Aside0.mk hI
        clear hI
        go_wp2_with fail
        go_roundw
        case rel => exact ⟨j + 1, by omega, by go_num, HI, ⟨bel _ _⟩⟩
        case measure => simp [intOf]; omega
      | true =>
        cases hv : (r.f0 == x.f1.f0) with
        | false =>
          have hI := HII.out
          simp only [hv, Bool.true_and, Bool.false_and, Bool.false_or] at hI
          have HI := Aside0.mk hI
          clear hI
          go_wp2_with fail
          go_roundw
          case rel => exact ⟨j + 1, by omega, by go_num, HI, ⟨bel _ _⟩⟩
          case measure => simp [intOf]; omega
        | true =>
          have hI := HII.out
          simp only [hv, Bool.true_and] at hI
          have HAL := Aside0.mk (fun W => alike_any W r x.f1)
          generalize alikeS r x.f1 = q at HAL hI
          have HI := Aside0.mk hI
          clear hI
          go_wp2_with fail
          refine (HAL.out _).mono ?_
          rintro r5 w5 ⟨rfl, hb⟩
          have p5 := prev_call hb
          clear hb
          cases q with
          | false =>
            go_wp2_with fail
            go_ret
            exact ⟨by rw [← HI.out]; rfl, bel _ _⟩
          | true =>
            have hI := HI.out
            simp only [Bool.not_true, Bool.false_or] at hI
            have HI := Aside0.mk hI
            clear hI
            go_wp2_with fail
            go_roundw
            case rel => exact ⟨j + 1, by omega, by go_num, HI, ⟨bel _ _⟩⟩
            case measure => simp [intOf]; omega
    · have hI := HI.out
      rw [List.drop_of_length_le (by omega)] at hI
      have HI' := Aside0.mk hI
      clear hI HI
      go_wp2_with fail
      go_ret
      exact ⟨by rw [← HI'.out]; rfl, bel _ _⟩
end Go.Proofs.YtjllbkeobibnkaaDoor.Q

namespace Go.Proofs.YtjllbkeobibnkaaDoor.Q
open Go Go.Proofs Go.Shelf Go.RowKit Go.Lib Go.Sort Go.Proofs.YtjllbkeobibnkaaDoorP Go.Proofs.YtjllbkeobibnkaaDoorK Go.Proofs.YtjllbkeobibnkaaDoorW.PrintWords Go.Proofs.YtjllbkeobibnkaaDoorW.PrintLast Go.Proofs.YtjllbkeobibnkaaDoorW.PrintMore
set_option linter.unusedSimpArgs false
set_option linter.unusedVariables false
/-! ### The document's Check -/
attribute [local go_sem] A51_size A51_0 A51_1 A51_g0 A51_g1 A58_size A58_0 A58_1 A58_2 A58_g0 A58_g1 A58_g2 cell_held frozen_held
attribute [local go_sem] zero51 zero58 zero65
attribute [local go_sem ↓ high] lvx_of
attribute [local go_sem] lv_sc lv24 lv33
attribute [local go_sem ↓ high] lv51 lv51s lv58 lv58a lv65 lv65a lv65l lv65r sc51 sc58 sc65 sc65a sc65l sc65r sc58a
set_option maxRecDepth 100000 in
set_option maxHeartbeats 4000000 in
theorem rCheck_any (w : World) (s : S24) (v : Array Value) (hs : SideIn w s v) (ho : okS s = true) :
    Calls Tryd.prog 27 #[.agg v] w fun e w' => e = .returned (.int .i64 (checkS s)) ∧ Below w.heap.size w w' := by
  obtain ⟨A, c, B, d, C, e, rfl, l1, l2, l3, h1, h2, h3⟩ := hs.out
  obtain ⟨m1, m2, m3⟩ := okS_open ho
  have n1 := (shortK_open m1).1
  have n3 := (shortK_open m3).1
  have HL0 := Aside0.mk (fun W (hb : Below w.heap.size w W) => rlist_any W A c s.f0 1 (Kd.C_below h1 hb) m1)
  have HL1 := Aside0.mk (fun W (hb : Below w.heap.size w W) => rlist_any W B d s.f1 0 (Kd.C_below h2 hb) m2)
  have HL2 := Aside0.mk (fun W (hb : Below w.heap.size w W) => rlist_any W C e s.f2 1 (Kd.C_below h3 hb) m3)
  have HF := Aside0.mk (fun W p (hb : Below w.heap.size w W) => rFind_any W C e s.f2 p (Kd.C_below h3 hb) n3)
  have HC := Aside0.mk h1
  obtain ⟨V, hV⟩ : ∃ V, checkS s = V := ⟨_, rfl⟩
  rw [hV]
  unfold checkS listsS at hV
  clear hs ho l1 l2 l3 h1 h2 h3 m1 m2 m3 n3
  generalize s.f0 = la at *
  generalize s.f1 = lb at *
  generalize s.f2 = lc at *
  generalize listA 1 none la = b0 at *
  generalize listA 0 none lb = b1 at *
  generalize listA 1 none lc = b2 at *
  have HV := Aside0.mk hV
  clear hV
  go_enter Tryd.func27, Tryd.ntmps27
  go_wp2_with fail
  refine (HL0.out _ (bel _ _)).mono ?_
  rintro r1 w1 ⟨rfl, hb⟩
  have p1 := prev_call hb
  clear hb
  cases b0
  · go_wp2_with fail
    go_ret
    exact ⟨by rw [← HV.out]; rfl, bel _ _⟩
  go_wp2_with fail
  refine (HL1.out _ (bel _ _)).mono ?_
  rintro r2 w2 ⟨rfl, hb⟩
  have p2 := prev_call hb
  clear hb
  cases b1
  · go_wp2_with fail
    go_ret
    exact ⟨by rw [← HV.out]; rfl, bel _ _⟩
  go_wp2_with fail
  refine (HL2.out _ (bel _ _)).mono ?_
  rintro r3 w3 ⟨rfl, hb⟩
  have p3 := prev_call hb
  clear hb
  cases b2
  · go_wp2_with fail
    go_ret
    exact ⟨by rw [← HV.out]; rfl, bel _ _⟩
  have hV := HV.out
  simp only [Bool.and_self, if_true] at hV
  have HV := Aside0.mk hV
  clear hV
  go_wp2_with fail
  go_loopw [3] (fun i wr => ∃ j : Nat, j ≤ la.length ∧ i = .int .i64 (j : Int) ∧ Aside0 ((if (la.drop j).any (badK lc) = true then (2 : Int) else 0) = V) ∧ Aside0 (Below w3.heap.size w3 wr)) (fun i _ => la.length - (intOf i).toNat)
  case atStart => exact ⟨0, Nat.zero_le _, rfl, HV, ⟨Below.refl _ _⟩⟩
  case round =>
    obtain ⟨j, hj, rfl, HI, HB⟩ := hrel
    have pr := prev_call HB.out
    have bw : Bel w.heap.size w wr := inferInstance
    by_cases hlt : j < la.length
    · obtain ⟨ad, e0, x0⟩ := C58_at HC.out j hlt
      subst e0
      have hI := HI.out
      rw [List.drop_eq_getElem_cons hlt, List.any_cons] at hI
      generalize la[j] = x at x0 hI
      replace x0 := At_below x0 (bel w wr)
      have X0 := Aside0.mk x0
      have HFX := Aside0.mk (fun W hb => HF.out W x.f0 hb)
      unfold badK at hI
      generalize findS lc x.f0 = f at HFX hI
      obtain ⟨r, b⟩ := f
      dsimp only at HFX hI
      have HII := Aside0.mk hI
      have xk : ∀ W, Below wr.heap.size wr W → W.cell? (ad.add (j * 35)) = some (.string x.f0) := fun W hb => by
        have := (At58 (At_below X0.out hb)).1
        rwa [add_zero_] at this
      have XK := Aside0.mk xk
      clear x0 hI HI xk
      have aw : Apart w.heap.size (.row wr.heap.size) := apart_ne (by have := (inferInstance : Size (w.heap.size + 1) wr).out; omega)
      go_upto_region 6 with (fail)
      go_cut [4, 5] from 29 to 40 (fun v4 v5 wc => ∃ g : Nat, v4 = .pointer (some ⟨g, 0, none⟩) ∧ v5 = .bool b ∧ Aside0 (wr.heap.size ≤ g) ∧ Aside0 (Go.Proofs.YtjllbkeobibnkaaDoorK.Holds wc g (.cells (A51 r) 51)) ∧ Aside0 (Below wr.heap.size wr wc))
      case first =>
        go_region_held3 (fun w' => w'.cell? ⟨w.heap.size, 0, none⟩ = some (.slice (some ad) la.length c) ∧ w'.cell? ⟨w.heap.size, 2, none⟩ = some (.slice C lc.length e) ∧ w'.cell? (ad.add (j * 35)) = some (.string x.f0)) (first | exact ⟨cell_held.trans rfl, cell_held.trans rfl, XK.out _ (bel _ _)⟩)
          (first | (go_at_call 38; refine (HFX.out _ (bel _ _)).mono ?_; rintro r4 w4 ⟨rfl, hb⟩; have p4 := prev_call hb; have ow4 : OwnB wr.heap.size (.row w4.heap.size) := own_row (siz wr w4); have aw4 : Apart w.heap.size (.row w4.heap.size) := apart_ne (by have := (inferInstance : Size (w.heap.size + 1) w4).out; omega); clear hb))
        all_goals
          go_wp2_with fail
          go_meet
          case rel => exact ⟨_, rfl, rfl, ⟨by first | exact Nat.le_refl _ | exact siz _ _⟩, ⟨inferInstance⟩, ⟨bel _ _⟩⟩
      case rest =>
        obtain ⟨g, rfl, rfl, HG, HH, HB2⟩ := hcut
        have pc := prev_call HB2.out
        have hh := HH.out
        have x1 := XK.out wc (bel _ _)
        have X1 := Aside0.mk (At58 (At_below X0.out (bel wr wc)))
        cases b with
        | false =>
          have hI := HII.out
          simp only [Bool.false_and, Bool.false_or] at hI
          have HI := Aside0.mk hI
          clear hI
          go_wp2_with fail
          go_quiet (fail)
          go_wp2_with fail
          go_roundw
          case rel => exact ⟨j + 1, by omega, by go_num, HI, ⟨bel _ _⟩⟩
          case measure => simp [intOf]; omega
        | true =>
          have x2 : wc.cell? ⟨(ad.add (j * 35)).block, (ad.add (j * 35)).off + 1, none⟩ = some (.int .i64 x.f1.f0) := (congrArg wc.cell? (Addr.add_succ' (ad.add (j * 35)) 0)).symm.trans X1.out.2.1
          have hrow : ∀ W : World, W.heap = wc.heap → (lvx 51 ⟨(ad.add (j * 35)).block, (ad.add (j * 35)).off + 1, none⟩).run Tryd.prog W = .ok (.agg (A51 x.f1)) W := fun W hW => by
            refine run_loadVar_at (cs := L51 x.f1) (fun i u hi => ?_) Tryd.underlying51 rfl (by rw [L51_len]; exact info51s)
            have h1 := X1.out.2.2.2.1 i u hi
            rw [Addr.add_succ' (ad.add (j * 35)) 0] at h1
            rw [← h1]
            unfold World.cell?
            rw [hW]
          cases hv : (r.f0 == x.f1.f0) with
          | false =>
            have hI := HII.out
            simp only [hv, Bool.true_and, Bool.false_and, Bool.false_or] at hI
            have HI := Aside0.mk hI
            clear hI
            go_wp2_with fail
            go_quiet (fail)
            go_wp2_with fail
            go_roundw
            case rel => exact ⟨j + 1, by omega, by go_num, HI, ⟨bel _ _⟩⟩
            case measure => simp [intOf]; omega
          | true =>
            have hI := HII.out
            simp only [hv, Bool.true_and] at hI
            have HAL := Aside0.mk (fun W => Alike_any W r x.f1)
            generalize alikeS r x.f1 = q at HAL hI
            have HI := Aside0.mk hI
            clear hI
            go_wp2_with fail
            go_still_tail 21, (by kernel_rfl)
            refine wpStill_step (fun K hK => ?_)
            go_simp
            rw [hrow wc.drew rfl]
            go_simp
            refine hK _ ?_
            clear hK K
            refine wpStill_nil ?_
            change wpList _ _ _ _ _ wc.drew
            have p2 : Prev wc.drew wc .none := inferInstance
            generalize wc.drew = w2 at p2 ⊢
            go_wp2_with fail
            refine (HAL.out _).mono ?_
            rintro r5 w5 ⟨rfl, hb⟩
            have p5 := prev_call hb
            clear hb
            cases q with
            | false =>
              go_wp2_with fail
              go_ret
              exact ⟨by rw [← HI.out]; rfl, bel _ _⟩
            | true =>
              have hI := HI.out
              simp only [Bool.not_true, Bool.false_or] at hI
              have HI := Aside0.mk hI
              clear hI
              go_wp2_with fail
              go_roundw
              case rel => exact ⟨j + 1, by omega, by go_num, HI, ⟨bel _ _⟩⟩
              case measure => simp [intOf]; omega
    · have hI := HI.out
      rw [List.drop_of_length_le (by omega)] at hI
      have HI' := Aside0.mk hI
      clear hI HI
      go_wp2_with fail
      go_ret
      exact ⟨by rw [← HI'.out]; rfl, bel _ _⟩
end Go.Proofs.YtjllbkeobibnkaaDoor.Q

namespace Go.Proofs.YtjllbkeobibnkaaDoor.Q
open Go Go.Proofs Go.Shelf Go.RowKit Go.Lib Go.Sort Go.Proofs.YtjllbkeobibnkaaDoorP Go.Proofs.YtjllbkeobibnkaaDoorK Go.Proofs.YtjllbkeobibnkaaDoorW.PrintWords Go.Proofs.YtjllbkeobibnkaaDoorW.PrintLast Go.Proofs.YtjllbkeobibnkaaDoorW.PrintMore
set_option linter.unusedSimpArgs false
set_option linter.unusedVariables false
/-! ### merge.has, Changed; the document's changed, has, Changed -/
def hasK (s : S24) (p : ByteArray) : Bool := (atS s p).inA || ((atS s p).inL || (atS s p).inR)
def chgS (s : S24) (p : ByteArray) : Bool × Bool := if checkS s = 0 then ((atS s p).here, (atS s p).there) else (false, false)
theorem checkS_two (s : S24) : checkS s = 0 ∨ checkS s = 2 := by
  unfold checkS
  split
  · split
    · exact .inr rfl
    · exact .inl rfl
  · exact .inr rfl
attribute [local go_sem] A51_size A51_0 A51_1 A51_g0 A51_g1 A58_size A58_0 A58_1 A58_2 A58_g0 A58_g1 A58_g2 cell_held frozen_held
attribute [local go_sem] A65_size A65_0 A65_34 A65_68 A65_102 A65_103 A65_104 A65_105 A65_106 A65_g0 A65_g34 A65_g68 A65_g102 A65_g103 A65_g104 A65_g105 A65_g106 set_inA set_inL set_inR set_here set_there
attribute [local go_sem] zero51 zero58 zero65
attribute [local go_sem ↓ high] lvx_of
attribute [local go_sem] lv_sc lv24 lv33
attribute [local go_sem ↓ high] lv51 lv51s lv58 lv58a lv65 lv65a lv65l lv65r sc51 sc58 sc65 sc65a sc65l sc65r sc58a
set_option maxRecDepth 100000 in
set_option maxHeartbeats 4000000 in
theorem has_any (w : World) (s : S24) (v : Array Value) (p : ByteArray) (hs : SideIn w s v) (hl : shortS s = true) :
    Calls Tryd.prog 31 #[.agg v, .string p] w fun e w' => e = .returned (.bool (hasK s p)) ∧ Below w.heap.size w w' := by
  have HA := Aside0.mk (fun W (hb : Below w.heap.size w W) => at_any W s v p (hs.below hb) hl)
  obtain ⟨A, c, B, d, C, e, rfl, l1, l2, l3, h1, h2, h3⟩ := hs.out
  unfold hasK
  generalize atS s p = x at HA
  obtain ⟨a, l, r, ia, il, ir, he, th⟩ := x
  dsimp only
  clear hs hl l1 l2 l3 h1 h2 h3
  go_enter Tryd.func31, Tryd.ntmps31
  go_wp2_with fail
  refine (HA.out _ (bel _ _)).mono ?_
  rintro r1 w1 ⟨rfl, hb⟩
  have p1 := prev_call hb
  have o1 : OwnB w.heap.size (.row w1.heap.size) := own_row (siz w w1)
  clear hb
  cases ia <;> cases il <;> go_wp2_with fail
  all_goals
    go_ret
    exact ⟨rfl, bel _ _⟩
set_option maxRecDepth 100000 in
set_option maxHeartbeats 4000000 in
theorem Changed_any (w : World) (s : S24) (v : Array Value) (p : ByteArray) (hs : SideIn w s v) (ho : okS s = true) :
    Calls Tryd.prog 9 #[.agg v, .string p] w fun e w' => e = .returned (.tuple #[.bool (chgS s p).1, .bool (chgS s p).2]) ∧ Below w.heap.size w w' := by
  have HK := Aside0.mk (fun W (hb : Below w.heap.size w W) => Check_any W s v (hs.below hb) ho)
  have HA := Aside0.mk (fun W (hb : Below w.heap.size w W) => at_any W s v p (hs.below hb) (okS_short ho))
  obtain ⟨A, c, B, d, C, e, rfl, l1, l2, l3, h1, h2, h3⟩ := hs.out
  have h02 := checkS_two s
  unfold chgS
  generalize atS s p = x at HA
  generalize checkS s = k at HK h02
  clear hs ho l1 l2 l3 h1 h2 h3
  rcases h02 with rfl | rfl
  · rw [if_pos rfl]
    go_enter Tryd.func9, Tryd.ntmps9
    go_wp2_with fail
    refine (HK.out _ (bel _ _)).mono ?_
    rintro r1 w1 ⟨rfl, hb⟩
    have p1 := prev_call hb
    clear hb
    go_wp2_with fail
    refine (HA.out _ (bel _ _)).mono ?_
    rintro r2 w2 ⟨rfl, hb⟩
    have p2 := prev_call hb
    have o2 : OwnB w.heap.size (.row w2.heap.size) := own_row (siz w w2)
    clear hb
    go_wp2_with fail
    go_quiet (fail)
    go_wp2_with fail
    go_ret2
    exact ⟨rfl, bel _ _⟩
  · rw [if_neg (by decide)]
    go_enter Tryd.func9, Tryd.ntmps9
    go_wp2_with fail
    refine (HK.out _ (bel _ _)).mono ?_
    rintro r1 w1 ⟨rfl, hb⟩
    have p1 := prev_call hb
    clear hb
    go_wp2_with fail
    go_ret2
    exact ⟨rfl, bel _ _⟩
set_option maxRecDepth 100000 in
set_option maxHeartbeats 4000000 in
theorem rhas_any (w : World) (s : S24) (v : Array Value) (p : ByteArray) (hs : SideIn w s v) (hl : shortS s = true) :
    Calls Tryd.prog 58 #[.agg v, .string p] w fun e w' => e = .returned (.bool (hasK s p)) ∧ Below w.heap.size w w' := by
  obtain ⟨A, c, B, d, C, e, rfl, l1, l2, l3, h1, h2, h3⟩ := hs.out
  obtain ⟨m1, m2, m3⟩ := shortS_open hl
  have HF0 := Aside0.mk (fun W (hb : Below w.heap.size w W) => rFind_any W A c s.f0 p (Kd.C_below h1 hb) m1)
  have HF1 := Aside0.mk (fun W (hb : Below w.heap.size w W) => rFind_any W B d s.f1 p (Kd.C_below h2 hb) m2)
  have HF2 := Aside0.mk (fun W (hb : Below w.heap.size w W) => rFind_any W C e s.f2 p (Kd.C_below h3 hb) m3)
  unfold hasK atS
  clear hs hl l1 l2 l3 h1 h2 h3 m1 m2 m3
  generalize s.f0.length = n0 at HF0
  generalize s.f1.length = n1 at HF1
  generalize s.f2.length = n2 at HF2
  generalize findS s.f0 p = x at HF0
  generalize findS s.f1 p = y at HF1
  generalize findS s.f2 p = z at HF2
  obtain ⟨x, ia⟩ := x
  obtain ⟨y, il⟩ := y
  obtain ⟨z, ir⟩ := z
  dsimp only at HF0 HF1 HF2 ⊢
  go_enter Tryd.func58, Tryd.ntmps58
  go_wp2_with fail
  refine (HF0.out _ (bel _ _)).mono ?_
  rintro r1 w1 ⟨rfl, hb⟩
  have p1 := prev_call hb
  have s1 := (inferInstance : Size (w.heap.size + 1) w1).out
  have o1 : OwnB w.heap.size (.row w1.heap.size) := own_row (by omega)
  have a1 : Apart w.heap.size (.row w1.heap.size) := apart_ne (by omega)
  clear hb
  go_wp2_with fail
  refine (HF1.out _ (bel _ _)).mono ?_
  rintro r2 w2 ⟨rfl, hb⟩
  have p2 := prev_call hb
  have s2 := (inferInstance : Size (w1.heap.size + 1) w2).out
  have o2 : OwnB w.heap.size (.row w2.heap.size) := own_row (by omega)
  have a2 : Apart w.heap.size (.row w2.heap.size) := apart_ne (by omega)
  have b2 : Apart w1.heap.size (.row w2.heap.size) := apart_ne (by omega)
  clear hb
  go_wp2_with fail
  refine (HF2.out _ (bel _ _)).mono ?_
  rintro r3 w3 ⟨rfl, hb⟩
  have p3 := prev_call hb
  have s3 := (inferInstance : Size (w2.heap.size + 1) w3).out
  have o3 : OwnB w.heap.size (.row w3.heap.size) := own_row (by omega)
  have b3 : Apart w1.heap.size (.row w3.heap.size) := apart_ne (by omega)
  have c3 : Apart w2.heap.size (.row w3.heap.size) := apart_ne (by omega)
  clear hb s1 s2 s3
  cases ia <;> cases il <;> cases ir <;> go_wp2_with fail
  all_goals
    go_ret
    exact ⟨rfl, bel _ _⟩
set_option maxRecDepth 100000 in
set_option maxHeartbeats 4000000 in
theorem rchanged_any (w : World) (s : S24) (v : Array Value) (p : ByteArray) (hs : SideIn w s v) (hl : shortS s = true) :
    Calls Tryd.prog 28 #[.agg v, .string p] w fun e w' => e = .returned (.tuple #[.bool (atS s p).here, .bool (atS s p).there]) ∧ Below w.heap.size w w' := by
  obtain ⟨A, c, B, d, C, e, rfl, l1, l2, l3, h1, h2, h3⟩ := hs.out
  obtain ⟨m1, m2, m3⟩ := shortS_open hl
  have HF0 := Aside0.mk (fun W (hb : Below w.heap.size w W) => rFind_any W A c s.f0 p (Kd.C_below h1 hb) m1)
  have HF1 := Aside0.mk (fun W (hb : Below w.heap.size w W) => rFind_any W B d s.f1 p (Kd.C_below h2 hb) m2)
  have HF2 := Aside0.mk (fun W (hb : Below w.heap.size w W) => rFind_any W C e s.f2 p (Kd.C_below h3 hb) m3)
  unfold atS
  clear hs hl l1 l2 l3 h1 h2 h3 m1 m2 m3
  generalize s.f0.length = n0 at HF0
  generalize s.f1.length = n1 at HF1
  generalize s.f2.length = n2 at HF2
  generalize findS s.f0 p = x at HF0
  generalize findS s.f1 p = y at HF1
  generalize findS s.f2 p = z at HF2
  obtain ⟨x, ia⟩ := x
  obtain ⟨y, il⟩ := y
  obtain ⟨z, ir⟩ := z
  dsimp only at HF0 HF1 HF2 ⊢
  go_enter Tryd.func28, Tryd.ntmps28
  go_wp2_with fail
  refine (HF0.out _ (bel _ _)).mono ?_
  rintro r1 w1 ⟨rfl, hb⟩
  have p1 := prev_call hb
  have s1 := (inferInstance : Size (w.heap.size + 1) w1).out
  have o1 : OwnB w.heap.size (.row w1.heap.size) := own_row (by omega)
  have a1 : Apart w.heap.size (.row w1.heap.size) := apart_ne (by omega)
  clear hb
  go_wp2_with fail
  refine (HF1.out _ (bel _ _)).mono ?_
  rintro r2 w2 ⟨rfl, hb⟩
  have p2 := prev_call hb
  have s2 := (inferInstance : Size (w1.heap.size + 1) w2).out
  have o2 : OwnB w.heap.size (.row w2.heap.size) := own_row (by omega)
  have a2 : Apart w.heap.size (.row w2.heap.size) := apart_ne (by omega)
  have b2 : Apart w1.heap.size (.row w2.heap.size) := apart_ne (by omega)
  clear hb
  go_wp2_with fail
  refine (HF2.out _ (bel _ _)).mono ?_
  rintro r3 w3 ⟨rfl, hb⟩
  have p3 := prev_call hb
  have s3 := (inferInstance : Size (w2.heap.size + 1) w3).out
  have o3 : OwnB w.heap.size (.row w3.heap.size) := own_row (by omega)
  have b3 : Apart w1.heap.size (.row w3.heap.size) := apart_ne (by omega)
  have c3 : Apart w2.heap.size (.row w3.heap.size) := apart_ne (by omega)
  clear hb s1 s2 s3
  cases ia <;> cases il <;> cases ir <;> go_wp2_with fail
  any_goals (first
    | (refine (Alike_any _ _ _).mono ?_
       rintro r4 w4 ⟨rfl, hb⟩
       have p4 := prev_call hb
       clear hb
       go_wp2_with fail)
    | skip)
  all_goals
    go_ret2
    exact ⟨by simp [*], bel _ _⟩
set_option maxRecDepth 100000 in
set_option maxHeartbeats 4000000 in
theorem rChanged_any (w : World) (s : S24) (v : Array Value) (p : ByteArray) (hs : SideIn w s v) (ho : okS s = true) :
    Calls Tryd.prog 10 #[.agg v, .string p] w fun e w' => e = .returned (.tuple #[.bool (chgS s p).1, .bool (chgS s p).2]) ∧ Below w.heap.size w w' := by
  have HK := Aside0.mk (fun W (hb : Below w.heap.size w W) => rCheck_any W s v (hs.below hb) ho)
  have HA := Aside0.mk (fun W (hb : Below w.heap.size w W) => rchanged_any W s v p (hs.below hb) (okS_short ho))
  obtain ⟨A, c, B, d, C, e, rfl, l1, l2, l3, h1, h2, h3⟩ := hs.out
  have h02 := checkS_two s
  unfold chgS
  generalize (atS s p).here = x at HA
  generalize (atS s p).there = y at HA
  generalize checkS s = k at HK h02
  clear hs ho l1 l2 l3 h1 h2 h3
  rcases h02 with rfl | rfl
  · rw [if_pos rfl]
    go_enter Tryd.func10, Tryd.ntmps10
    go_wp2_with fail
    refine (HK.out _ (bel _ _)).mono ?_
    rintro r1 w1 ⟨rfl, hb⟩
    have p1 := prev_call hb
    clear hb
    go_wp2_with fail
    refine (HA.out _ (bel _ _)).mono ?_
    rintro r2 w2 ⟨rfl, hb⟩
    have p2 := prev_call hb
    clear hb
    go_wp2_with fail
    go_ret2
    exact ⟨rfl, bel _ _⟩
  · rw [if_neg (by decide)]
    go_enter Tryd.func10, Tryd.ntmps10
    go_wp2_with fail
    refine (HK.out _ (bel _ _)).mono ?_
    rintro r1 w1 ⟨rfl, hb⟩
    have p1 := prev_call hb
    clear hb
    go_wp2_with fail
    go_ret2
    exact ⟨rfl, bel _ _⟩
end Go.Proofs.YtjllbkeobibnkaaDoor.Q

namespace Go.Proofs.YtjllbkeobibnkaaDoor.Q
open Go Go.Proofs Go.Shelf Go.RowKit Go.Lib Go.Sort Go.Proofs.YtjllbkeobibnkaaDoorP Go.Proofs.YtjllbkeobibnkaaDoorK Go.Proofs.YtjllbkeobibnkaaDoorW.PrintWords Go.Proofs.YtjllbkeobibnkaaDoorW.PrintLast Go.Proofs.YtjllbkeobibnkaaDoorW.PrintMore
set_option linter.unusedSimpArgs false
set_option linter.unusedVariables false
/-! ### merge.free -/
def freeN (cp : Nat → ByteArray × Int) (tk : ByteArray → Bool) : Nat → Nat → ByteArray × Bool
  | 0, _ => (⟨#[]⟩, false)
  | d + 1, n => if (cp n).2 = 0 ∧ tk (cp n).1 = false then ((cp n).1, true) else freeN cp tk d (n + 1)
/-- What is asked of the predicate. -/
def PredF (g : Nat) (bs : Array Value) (tk : ByteArray → Bool) (w : World) : Prop := ∀ W q, Below w.heap.size w W → Calls Tryd.prog g (#[.string q] ++ bs) W fun e w' => e = .returned (.bool (tk q)) ∧ Below W.heap.size W w'
set_option maxRecDepth 100000 in
set_option maxHeartbeats 2000000 in
theorem free_any (w : World) (p : ByteArray) (g : Nat) (bs : Array Value) (eg : ∀ args w, (callFunc g args).run Tryd.prog w = .ok (.enter g args) w) (cp : Nat → ByteArray × Int) (tk : ByteArray → Bool) (hp : PredF g bs tk w)
    (hcp : ∀ W (n : Nat), 1 ≤ n → n ≤ 999 → Calls Tryd.prog 56 #[.string p, .int .i64 (n : Int)] W fun e w' => e = .returned (.tuple #[.string (cp n).1, .int .i64 (cp n).2]) ∧ Below W.heap.size W w') :
    Calls Tryd.prog 29 #[.string p, .func (.func g) #[] bs] w fun e w' => e = .returned (.tuple #[.string (freeN cp tk 999 1).1, .bool (freeN cp tk 999 1).2]) ∧ Below w.heap.size w w' := by
  have HP := Aside0.mk hp
  have HC := Aside0.mk hcp
  obtain ⟨R, hR⟩ : ∃ R, freeN cp tk 999 1 = R := ⟨_, rfl⟩
  rw [hR]
  clear hp hcp
  go_enter Tryd.func29, Tryd.ntmps29
  go_wp2_with fail
  go_loopw [9] (fun i wr => ∃ j : Nat, j ≤ 999 ∧ i = .int .i64 (j : Int) ∧ Aside0 (freeN cp tk (999 - j) (j + 1) = R) ∧ Aside0 (Below w.heap.size w wr)) (fun i _ => 999 - (intOf i).toNat)
  case atStart => exact ⟨0, Nat.zero_le _, rfl, ⟨hR⟩, ⟨Below.refl _ _⟩⟩
  case round =>
    obtain ⟨j, hj, rfl, HI, HB⟩ := hrel
    have bw : Bel w.heap.size w wr := ⟨fun _ => HB.out⟩
    clear hR
    by_cases hlt : j < 999
    · have hI := HI.out
      obtain ⟨d, hd⟩ : ∃ d, 999 - j = d + 1 := ⟨998 - j, by omega⟩
      rw [hd] at hI
      simp only [freeN] at hI
      have hc := fun W => HC.out W (j + 1) (by omega) (by omega)
      generalize cp (j + 1) = q at hc hI
      obtain ⟨q, e⟩ := q
      dsimp only at hc hI
      have hd2 : d = 999 - (j + 1) := by omega
      rw [hd2] at hI
      have HC2 := Aside0.mk hc
      have HII := Aside0.mk hI
      have hpq := fun W (hb : Below w.heap.size w W) => HP.out W q hb
      generalize tk q = b at hpq HII
      have HPQ := Aside0.mk hpq
      clear hc hI hd hd2 HI hpq
      have hw1 : ((j + 1 : Nat) : Int) = (j : Int) + 1 := by omega
      rw [hw1] at HC2
      clear hw1
      by_cases h0 : e = 0
      · subst h0
        go_wp2_with fail
        refine (HC2.out _).mono ?_
        rintro r1 w1 ⟨rfl, hb⟩
        have p1 := prev_call hb
        clear hb
        go_wp2_with fail
        refine (HPQ.out _ (bel _ _)).mono ?_
        rintro r2 w2 ⟨rfl, hb⟩
        have p2 := prev_call hb
        clear hb
        cases b with
        | false =>
          have hI := HII.out
          simp only [true_and, if_true] at hI
          have HI := Aside0.mk hI
          clear hI
          go_wp2_with fail
          go_ret2
          exact ⟨by rw [← HI.out]; rfl, bel _ _⟩
        | true =>
          have hI := HII.out
          rw [if_neg (fun h => absurd h.2 (by decide))] at hI
          have HI := Aside0.mk hI
          clear hI
          go_wp2_with fail
          go_roundw
          case rel => exact ⟨j + 1, by omega, by go_num, HI, ⟨bel _ _⟩⟩
          case measure => simp [intOf]; omega
      · have hI := HII.out
        rw [if_neg (fun h => absurd h.1 h0)] at hI
        have HI := Aside0.mk hI
        clear hI
        go_wp2_with fail
        refine (HC2.out _).mono ?_
        rintro r1 w1 ⟨rfl, hb⟩
        have p1 := prev_call hb
        clear hb
        go_wp2_with fail
        go_roundw
        case rel => exact ⟨j + 1, by omega, by go_num, HI, ⟨bel _ _⟩⟩
        case measure => simp [intOf]; omega
    · have hI := HI.out
      obtain rfl : j = 999 := by omega
      simp only [Nat.sub_self, freeN] at hI
      have HI' := Aside0.mk hI
      clear hI HI
      go_wp2_with fail
      go_ret2
      exact ⟨by rw [← HI'.out]; rfl, bel _ _⟩
end Go.Proofs.YtjllbkeobibnkaaDoor.Q

namespace Go.Proofs.YtjllbkeobibnkaaDoor.Q
open Go Go.Proofs Go.Shelf Go.RowKit Go.Lib Go.Sort Go.Proofs.YtjllbkeobibnkaaDoorP Go.Proofs.YtjllbkeobibnkaaDoorK Go.Proofs.YtjllbkeobibnkaaDoorW.PrintWords Go.Proofs.YtjllbkeobibnkaaDoorW.PrintLast Go.Proofs.YtjllbkeobibnkaaDoorW.PrintMore
set_option linter.unusedSimpArgs false
set_option linter.unusedVariables false
/-! ### merge.Copy; the document's free, Copy -/
def copyS (cp : Nat → ByteArray × Int) (s : S24) : ByteArray × Bool := if checkS s = 0 then freeN cp (hasK s) 999 1 else (⟨#[]⟩, false)
/-- What is asked of a function that makes a path's copies. -/
def CopyF (f : Nat) (p : ByteArray) (cp : Nat → ByteArray × Int) : Prop := ∀ W (n : Nat), 1 ≤ n → n ≤ 999 → Calls Tryd.prog f #[.string p, .int .i64 (n : Int)] W fun e w' => e = .returned (.tuple #[.string (cp n).1, .int .i64 (cp n).2]) ∧ Below W.heap.size W w'
attribute [local go_sem] cell_held frozen_held
attribute [local go_sem ↓ high] lvx_of
attribute [local go_sem] lv_sc lv24 lv33
set_option maxRecDepth 100000 in
theorem copy1_any (w : World) (s : S24) (v : Array Value) (b : Nat) (hs : SideIn w s v) (ho : okS s = true) (h : w.heap[b]? = some (.cells v 24 (0, 0))) : PredF 30 #[.pointer (some ⟨b, 0, none⟩)] (hasK s) w := by
  intro W q hb
  have HA := Aside0.mk (fun W' (hb' : Below W.heap.size W W') => has_any W' s v q ((hs.below hb).below hb') (okS_short ho))
  have hW := (hb.block b (blk_lt h)).trans h
  obtain ⟨A, c, B, d, C, e, rfl, l1, l2, l3, h1, h2, h3⟩ := hs.out
  have hh : Go.Proofs.YtjllbkeobibnkaaDoorK.Holds W b (.cells #[.slice A s.f0.length c, .slice B s.f1.length d, .slice C s.f2.length e] 24) := ⟨hW⟩
  have hlt := blk_lt hW
  clear hs ho l1 l2 l3 h1 h2 h3 hb hW h
  show Calls Tryd.prog _ #[.string q, .pointer (some ⟨b, 0, none⟩)] W _
  generalize s.f0.length = n0 at *
  generalize s.f1.length = n1 at *
  generalize s.f2.length = n2 at *
  go_enter Tryd.func30, Tryd.ntmps30
  go_wp2_with fail
  refine (HA.out _ (bel _ _)).mono ?_
  rintro r1 w1 ⟨rfl, hb⟩
  have p1 := prev_call hb
  clear hb
  go_wp2_with fail
  go_ret
  exact ⟨rfl, bel _ _⟩
set_option maxRecDepth 100000 in
set_option maxHeartbeats 2000000 in
theorem Copy_any (w : World) (s : S24) (v : Array Value) (p : ByteArray) (cp : Nat → ByteArray × Int) (hcp : CopyF 56 p cp) (hs : SideIn w s v) (ho : okS s = true) :
    Calls Tryd.prog 11 #[.agg v, .string p] w fun e w' => e = .returned (.tuple #[.string (copyS cp s).1, .bool (copyS cp s).2]) ∧ Below w.heap.size w w' := by
  have eg : ∀ args w, (callFunc 30 args).run Tryd.prog w = .ok (.enter 30 args) w := enters_of Tryd.func30 (by kernel_rfl) rfl
  have HK := Aside0.mk (fun W (hb : Below w.heap.size w W) => Check_any W s v (hs.below hb) ho)
  have HF := Aside0.mk (fun W b (hb : Below w.heap.size w W) hh => free_any W p 30 #[.pointer (some ⟨b, 0, none⟩)] eg cp (hasK s) (copy1_any W s v b (hs.below hb) ho hh) hcp)
  obtain ⟨A, c, B, d, C, e, rfl, l1, l2, l3, h1, h2, h3⟩ := hs.out
  have h02 := checkS_two s
  unfold copyS
  generalize freeN cp (hasK s) 999 1 = x at HF
  generalize checkS s = k at HK h02
  clear hs ho l1 l2 l3 h1 h2 h3 eg hcp
  rcases h02 with rfl | rfl
  · rw [if_pos rfl]
    go_enter Tryd.func11, Tryd.ntmps11
    go_wp2_with fail
    refine (HK.out _ (bel _ _)).mono ?_
    rintro r1 w1 ⟨rfl, hb⟩
    have p1 := prev_call hb
    clear hb
    go_wp2_with fail
    refine (HF.out _ _ (bel _ _) held).mono ?_
    rintro r2 w2 ⟨rfl, hb⟩
    have p2 := prev_call hb
    clear hb
    go_wp2_with fail
    go_ret2
    exact ⟨rfl, bel _ _⟩
  · rw [if_neg (by decide)]
    go_enter Tryd.func11, Tryd.ntmps11
    go_wp2_with fail
    refine (HK.out _ (bel _ _)).mono ?_
    rintro r1 w1 ⟨rfl, hb⟩
    have p1 := prev_call hb
    clear hb
    go_wp2_with fail
    go_ret2
    exact ⟨rfl, bel _ _⟩
end Go.Proofs.YtjllbkeobibnkaaDoor.Q

namespace Go.Proofs.YtjllbkeobibnkaaDoor.Q
open Go Go.Proofs Go.Shelf Go.RowKit Go.Lib Go.Sort Go.Proofs.YtjllbkeobibnkaaDoorP Go.Proofs.YtjllbkeobibnkaaDoorK Go.Proofs.YtjllbkeobibnkaaDoorW.PrintWords Go.Proofs.YtjllbkeobibnkaaDoorW.PrintLast Go.Proofs.YtjllbkeobibnkaaDoorW.PrintMore
set_option linter.unusedSimpArgs false
set_option linter.unusedVariables false
/-! ### scope.Has (as in the scope's seat) -/
theorem within_c (W : World) (d p : ByteArray) (hp : p.size ≤ 65536) : Calls Tryd.prog 50 #[.string d, .string p] W fun e w' => e = .returned (.bool (withinS d p)) ∧ Below W.heap.size W w' := by
  have hb := fun W => Below_any W d p hp
  unfold withinS
  have HB := Aside0.mk hb
  clear hb
  cases h : (p.toList == d.toList) with
  | true =>
    go_enter Tryd.func50, Tryd.ntmps50
    go_wp2_with fail
    go_ret
    exact ⟨rfl, bel _ _⟩
  | false =>
    go_enter Tryd.func50, Tryd.ntmps50
    go_wp2_with fail
    refine (HB.out _).mono ?_
    rintro e w1 ⟨rfl, hb⟩
    go_wp2_with fail
    go_ret
    exact ⟨rfl, hb⟩
theorem C_str {w : World} {A : Option Addr} {l : List ByteArray} (h : Kd.C Kd.string w A l.length l) (j : Nat) (hj : j < l.length) : ∃ ad, A = some ad ∧ w.cell? (ad.add j) = some (.string l[j]) := by
  obtain ⟨ad, e, hc⟩ := h.2.2 (by omega)
  obtain ⟨c, h1, h2, h3⟩ := hc j l[j] (List.getElem?_eq_getElem hj)
  refine ⟨ad, e, ?_⟩
  have h4 : w.cell? (ad.add (j * 1 + 0)) = some (.string l[j]) := h3 0 (.string l[j]) (by rw [show c = [Value.string l[j]] from h2]; rfl)
  simpa using h4
/-- Where the first one stands that is so; -1: none is. -/
def idxP (p : ByteArray → Bool) : Nat → List ByteArray → Int
  | _, [] => -1
  | i, x :: l => if p x = true then (i : Int) else idxP p (i + 1) l
theorem idxP_any (p : ByteArray → Bool) (l : List ByteArray) : ∀ i, decide (0 ≤ idxP p i l) = l.any p := by
  induction l with
  | nil => intro i; rfl
  | cons x l ih =>
    intro i
    unfold idxP
    rw [List.any_cons]
    cases h : p x with
    | true => rw [if_pos rfl]; simp
    | false => rw [if_neg (by decide), ih]; rfl
/-- What is asked of a predicate that is bound to one box. -/
def PredB (g b : Nat) (p : ByteArray → Bool) (l : List ByteArray) (w : World) : Prop := ∀ W x, x ∈ l → Below w.heap.size w W → Calls Tryd.prog g #[.string x, .pointer (some ⟨b, 0, none⟩)] W fun e w' => e = .returned (.bool (p x)) ∧ Below W.heap.size W w'
set_option maxRecDepth 100000 in
set_option maxHeartbeats 1000000 in
theorem idxf_any (w : World) (A : Option Addr) (c : Nat) (l : List ByteArray) (hC : Kd.C Kd.string w A l.length l) (hl : l.length ≤ 1048576) (g b : Nat) (eg : ∀ args w, (callFunc g args).run Tryd.prog w = .ok (.enter g args) w) (p : ByteArray → Bool) (hp : PredB g b p l w) :
    Calls Tryd.prog 73 #[.slice A l.length c, .func (.func g) #[] #[.pointer (some ⟨b, 0, none⟩)]] w fun e w' => e = .returned (.int .i64 (idxP p 0 l)) ∧ Below w.heap.size w w' := by
  have HR := Aside0.mk hC
  have HP := Aside0.mk hp
  have HB0 := Aside0.mk (Below.refl w.heap.size w)
  clear hC hp
  go_enter Tryd.func73, Tryd.ntmps73
  go_wp2_with fail
  go_loopw [8] (fun i wr => ∃ j : Nat, j ≤ l.length ∧ i = .int .i64 (j : Int) ∧ Aside0 (idxP p j (l.drop j) = idxP p 0 l) ∧ Aside0 (Below w.heap.size w wr)) (fun i _ => l.length - (RowKit.intOf i).toNat)
  case atStart => exact ⟨0, Nat.zero_le _, rfl, ⟨rfl⟩, HB0⟩
  case round =>
    obtain ⟨j, hj, rfl, HI, HB⟩ := hrel
    by_cases hlt : j < l.length
    · obtain ⟨ad, e, x0⟩ := C_str HR.out j hlt
      subst e
      have hd := List.drop_eq_getElem_cons hlt
      have hmem := List.getElem_mem hlt
      have hI := HI.out
      rw [hd] at hI
      simp only [idxP] at hI
      have hpw := fun W => HP.out W l[j] hmem
      generalize l[j] = x at x0 hI hpw
      replace x0 := (HB.out.cell (World.block_lt_of_cell? w _ x0)).trans x0
      have HPW := Aside0.mk hpw
      clear hd hmem hpw HI
      have bw : Bel w.heap.size w wr := ⟨fun _ => HB.out⟩
      cases hx : p x with
      | true =>
        rw [if_pos hx] at hI
        have HI := Aside0.mk hI
        have HPW := HPW.out
        rw [hx] at HPW
        have HPW := Aside0.mk HPW
        clear hI hx
        go_wp2_with fail
        refine (HPW.out _ (bel _ _)).mono ?_
        rintro e w1 ⟨rfl, hb1⟩
        have p1 := prev_call hb1
        go_wp2_with fail
        go_ret
        exact ⟨by rw [← HI.out]; rfl, bel _ _⟩
      | false =>
        rw [if_neg (by rw [hx]; decide)] at hI
        have HI := Aside0.mk hI
        have HPW := HPW.out
        rw [hx] at HPW
        have HPW := Aside0.mk HPW
        clear hI hx
        go_wp2_with fail
        refine (HPW.out _ (bel _ _)).mono ?_
        rintro e w1 ⟨rfl, hb1⟩
        have p1 := prev_call hb1
        go_wp2_with fail
        go_roundw
        case rel => exact ⟨j + 1, by omega, by go_num, HI, ⟨bel _ _⟩⟩
        case measure => simp [RowKit.intOf]; omega
    · have hI := HI.out
      rw [List.drop_of_length_le (by omega)] at hI
      have HI' := Aside0.mk hI
      clear hI HI
      go_wp2_with fail
      go_ret
      exact ⟨by rw [← HI'.out]; rfl, HB.out⟩
theorem contf_any (w : World) (A : Option Addr) (c : Nat) (l : List ByteArray) (hC : Kd.C Kd.string w A l.length l) (hl : l.length ≤ 1048576) (g b : Nat) (eg : ∀ args w, (callFunc g args).run Tryd.prog w = .ok (.enter g args) w) (p : ByteArray → Bool) (hp : PredB g b p l w) :
    Calls Tryd.prog 48 #[.slice A l.length c, .func (.func g) #[] #[.pointer (some ⟨b, 0, none⟩)]] w fun e w' => e = .returned (.bool (l.any p)) ∧ Below w.heap.size w w' := by
  rw [← idxP_any p l 0]
  have hi := idxf_any w A c l hC hl g b eg p hp
  generalize idxP p 0 l = z at hi
  have HI := Aside0.mk hi
  clear hi hC hp eg
  go_enter Tryd.func48, Tryd.ntmps48
  go_wp2_with fail
  refine HI.out.mono ?_
  rintro e w1 ⟨rfl, hb1⟩
  go_wp2_with fail
  go_ret
  exact ⟨rfl, hb1⟩
/-- Does a path lie in one of a list? -/
def hasS (s : List ByteArray) (p : ByteArray) : Bool := isP p && s.any fun d => withinS d p
theorem has1_any (w : World) (b : Nat) (p : ByteArray) (hp : p.size ≤ 65536) (h : w.heap[b]? = some (.cells #[.string p] 9 (0, 0))) (l : List ByteArray) : PredB 49 b (fun d => withinS d p) l w := by
  intro W x _ hb
  have hW := (hb.block b (blk_lt h)).trans h
  have hh : Go.Proofs.YtjllbkeobibnkaaDoorK.Holds W b (.cells #[.string p] 9) := ⟨hW⟩
  have x0 : W.cell? ⟨b, 0, none⟩ = some (.string p) := cell_held.trans rfl
  have hwi := fun W => within_c W x p hp
  have HWI := Aside0.mk hwi
  clear hwi hb hh hW h hp
  go_enter Tryd.func49, Tryd.ntmps49
  go_wp2_with fail
  refine (HWI.out _).mono ?_
  rintro e w1 ⟨rfl, hb1⟩
  go_wp2_with fail
  go_ret
  exact ⟨rfl, hb1⟩
set_option maxHeartbeats 1000000 in
theorem Has_any (w : World) (A : Option Addr) (c : Nat) (l : List ByteArray) (p : ByteArray) (hC : Kd.C Kd.string w A l.length l) (hl : l.length ≤ 1048576) (hp : p.size ≤ 65536) :
    Calls Tryd.prog 20 #[.slice A l.length c, .string p] w fun e w' => e = .returned (.bool (hasS l p)) ∧ Below w.heap.size w w' := by
  have hk := fun W => Kind_any W p hp
  have eg : ∀ args w, (callFunc 49 args).run Tryd.prog w = .ok (.enter 49 args) w := enters_of Tryd.func49 (by kernel_rfl) rfl
  have EG := Aside0.mk eg
  have HC := Aside0.mk hC
  have HP := Aside0.mk hp
  have HL := Aside0.mk hl
  unfold hasS isP
  generalize kindS p = r at hk
  obtain ⟨k, e⟩ := r
  dsimp only at hk ⊢
  by_cases h0 : e = 0
  · subst h0
    have HK := Aside0.mk hk
    clear hk hC hp hl eg
    go_enter Tryd.func20, Tryd.ntmps20
    go_wp2_with fail
    refine (HK.out _).mono ?_
    rintro e w1 ⟨rfl, hb1⟩
    have p1 := prev_call hb1
    go_wp2_with fail
    refine (contf_any w1 A c l (Kd.C_below HC.out (bel _ _)) HL.out _ w.heap.size EG.out _ (has1_any w1 w.heap.size p HP.out held l)).mono ?_
    rintro e w2 ⟨rfl, hb2⟩
    have p2 := prev_call hb2
    go_wp2_with fail
    go_ret
    exact ⟨rfl, bel _ _⟩
  · have h1 : (e == 0) = false := beq_eq_false_iff_ne.mpr h0
    have h2 : (e != 0) = true := bne_iff_ne.mpr h0
    rw [h1]
    have HK := Aside0.mk hk
    clear hk hC hp hl eg h0
    go_enter Tryd.func20, Tryd.ntmps20
    go_wp2_with fail
    refine (HK.out _).mono ?_
    rintro e w1 ⟨rfl, hb1⟩
    have p1 := prev_call hb1
    go_wp2_with fail
    go_ret
    exact ⟨rfl, bel _ _⟩
def scope_Has.f (l : List ByteArray) (p : ByteArray) : Option Bool := if l.length ≤ 1048576 ∧ p.size ≤ 65536 then some (hasS l p) else none
theorem scope_Has.calls (A0 : Option Addr) (c0 : Nat) (l0 : List ByteArray) (a1 : ByteArray) (r : Bool) (w : World) (hr0 : Kd.C Kd.string w A0 l0.length l0) (hc0 : l0.length ≤ c0) (h : scope_Has.f l0 a1 = some r) :
    Calls Tryd.prog 20 #[.slice A0 l0.length c0, .string a1] w fun e w' => e = .returned (.bool r) ∧ Below w.heap.size w w' := by
  unfold scope_Has.f at h
  split at h
  · rename_i hs
    injection h with h
    subst h
    exact Has_any w A0 c0 l0 a1 hr0 hs.1 hs.2
  · simp at h
end Go.Proofs.YtjllbkeobibnkaaDoor.Q

namespace Go.Proofs.YtjllbkeobibnkaaDoor.Q
open Go Go.Proofs Go.Shelf Go.RowKit Go.Lib Go.Sort Go.Proofs.YtjllbkeobibnkaaDoorP Go.Proofs.YtjllbkeobibnkaaDoorK Go.Proofs.YtjllbkeobibnkaaDoorW.PrintWords Go.Proofs.YtjllbkeobibnkaaDoorW.PrintLast Go.Proofs.YtjllbkeobibnkaaDoorW.PrintMore
set_option linter.unusedSimpArgs false
set_option linter.unusedVariables false
/-! ### The document's free, Copy -/
attribute [local go_sem] cell_held frozen_held
attribute [local go_sem ↓ high] lvx_of
attribute [local go_sem] lv_sc lv24 lv33
def inL (l : List ByteArray) (q : ByteArray) : Bool := l.any fun x => x.toList == q.toList
set_option maxRecDepth 100000 in
set_option maxHeartbeats 4000000 in
theorem rfree_any (w : World) (s : S24) (v : Array Value) (p : ByteArray) (cp : Nat → ByteArray × Int) (hcp : CopyF 57 p cp) (hs : SideIn w s v) (ho : okS s = true) (L : Option Addr) (cl : Nat) (l : List ByteArray) (hl : Kd.C Kd.string w L l.length l) (hll : l.length ≤ 1048576) :
    Calls Tryd.prog 32 #[.agg v, .string p, .slice L l.length cl] w fun e w' => e = .returned (.tuple #[.string (freeN cp (fun q => hasK s q || inL l q) 999 1).1, .bool (freeN cp (fun q => hasK s q || inL l q) 999 1).2]) ∧ Below w.heap.size w w' := by
  have HH := Aside0.mk (fun W q (hb : Below w.heap.size w W) => rhas_any W s v q (hs.below hb) (okS_short ho))
  have HC := Aside0.mk hcp
  have HR := Aside0.mk hl
  obtain ⟨A, c, B, d, C, e, rfl, l1, l2, l3, h1, h2, h3⟩ := hs.out
  obtain ⟨R, hR⟩ : ∃ R, freeN cp (fun q => hasK s q || inL l q) 999 1 = R := ⟨_, rfl⟩
  rw [hR]
  clear hcp hs ho l1 l2 l3 h1 h2 h3 hl
  generalize s.f0.length = n0 at *
  generalize s.f1.length = n1 at *
  generalize s.f2.length = n2 at *
  go_enter Tryd.func32, Tryd.ntmps32
  go_wp2_with fail
  have hbox : Go.Proofs.YtjllbkeobibnkaaDoorK.Holds (w.alloc (.cells #[.slice A n0 c, .slice B n1 d, .slice C n2 e] 24)) w.heap.size (.cells #[.slice A n0 c, .slice B n1 d, .slice C n2 e] 24) := inferInstance
  go_loopw [8] (fun i wr => ∃ j : Nat, j ≤ 999 ∧ i = .int .i64 ((j : Int) + 1) ∧ Aside0 (freeN cp (fun q => hasK s q || inL l q) (999 - j) (j + 1) = R) ∧ Aside0 (Below w.heap.size w wr) ∧ Aside0 (Go.Proofs.YtjllbkeobibnkaaDoorK.Holds wr w.heap.size (.cells #[.slice A n0 c, .slice B n1 d, .slice C n2 e] 24))) (fun i _ => 1000 - (intOf i).toNat)
  case atStart => exact ⟨0, Nat.zero_le _, rfl, ⟨hR⟩, ⟨bel _ _⟩, ⟨hbox⟩⟩
  case round =>
    obtain ⟨j, hj, rfl, HI, HB, HX⟩ := hrel
    have bw : Bel w.heap.size w wr := ⟨fun _ => HB.out⟩
    have hx := HX.out
    clear hR hbox
    by_cases hlt : j < 999
    · have hI := HI.out
      obtain ⟨d2, hd⟩ : ∃ d2, 999 - j = d2 + 1 := ⟨998 - j, by omega⟩
      rw [hd] at hI
      simp only [freeN] at hI
      have hc := fun W => HC.out W (j + 1) (by omega) (by omega)
      generalize cp (j + 1) = q at hc hI
      obtain ⟨q, er⟩ := q
      dsimp only at hc hI
      have hd2 : d2 = 999 - (j + 1) := by omega
      rw [hd2] at hI
      have HC2 := Aside0.mk hc
      have hpq := fun W (hb : Below w.heap.size w W) => HH.out W q hb
      obtain ⟨b, hbq⟩ : ∃ b, hasK s q = b := ⟨_, rfl⟩
      simp only [hbq] at hpq hI
      have HPQ := Aside0.mk hpq
      have HII := Aside0.mk hI
      clear hbq
      clear hc hI hd hd2 HI hpq
      have hw1 : ((j + 1 : Nat) : Int) = (j : Int) + 1 := by omega
      rw [hw1] at HC2
      clear hw1
      go_wp2_with fail
      refine (HC2.out _).mono ?_
      rintro r1 w1 ⟨rfl, hb⟩
      have p1 := prev_call hb
      clear hb
      by_cases h0 : er = 0
      · subst h0
        go_wp2_with fail
        refine (HPQ.out _ (bel _ _)).mono ?_
        rintro r2 w2 ⟨rfl, hb⟩
        have p2 := prev_call hb
        clear hb
        go_wp2_with fail
        go_loopw [11, 12] (fun t i wz => ∃ (j2 : Nat) (y : Bool), j2 ≤ l.length ∧ i = .int .i64 (j2 : Int) ∧ t = .bool y ∧ Aside0 ((y || inL (l.drop j2) q) = (b || inL l q)) ∧ wz = w2) (fun _ i _ => l.length - (intOf i).toNat)
        case atStart => exact ⟨0, b, Nat.zero_le _, rfl, rfl, ⟨rfl⟩, rfl⟩
        case round =>
          obtain ⟨j2, y, hj2, rfl, rfl, HY, hwz⟩ := hrel
          obtain rfl : w2 = wr := hwz.symm
          by_cases hlt2 : j2 < l.length
          · cases y with
            | true =>
              go_wp2_with fail
              go_roundw
              case rel => exact ⟨j2 + 1, true, by omega, by go_num, rfl, ⟨by have := HY.out; rw [Bool.true_or] at this ⊢; exact this⟩, trivial⟩
              case measure => simp [intOf]; omega
            | false =>
              obtain ⟨ad, e0, x0⟩ := C_str (Kd.C_below HR.out (bel w w2)) j2 hlt2
              subst e0
              have hY := HY.out
              rw [List.drop_eq_getElem_cons hlt2] at hY
              unfold inL at hY
              rw [List.any_cons, Bool.false_or] at hY
              generalize l[j2] = z at x0 hY
              have HY2 := Aside0.mk hY
              clear hY HY
              go_wp2_with fail
              go_roundw
              case rel => exact ⟨j2 + 1, _, by omega, by go_num, rfl, HY2, trivial⟩
              case measure => simp [intOf]; omega
          · have hY := HY.out
            rw [List.drop_of_length_le (by omega)] at hY
            have hY : y = (b || inL l q) := by rw [← hY]; unfold inL; simp
            have HY2 := Aside0.mk hY
            clear hY HY
            cases y with
            | true =>
              have hI := HII.out
              rw [if_neg (by rw [← HY2.out]; exact fun h => absurd h.2 (by decide))] at hI
              have HI := Aside0.mk hI
              clear hI
              go_wp2_with fail
              go_roundw
              case rel => exact ⟨j + 1, by omega, by go_num, HI, ⟨bel _ _⟩, ⟨inferInstance⟩⟩
              case measure => simp [intOf]; omega
            | false =>
              have hI := HII.out
              rw [if_pos (by first | exact ⟨rfl, HY2.out.symm⟩ | exact ⟨trivial, HY2.out.symm⟩)] at hI
              have HI := Aside0.mk hI
              clear hI
              go_wp2_with fail
              go_ret2
              exact ⟨by rw [← HI.out]; rfl, bel _ _⟩
      · go_wp2_with fail
        go_loopw [11, 12] (fun t i wz => ∃ (j2 : Nat) (y : Bool), j2 ≤ l.length ∧ i = .int .i64 (j2 : Int) ∧ t = .bool y ∧ Aside0 ((y || inL (l.drop j2) q) = (true || inL l q)) ∧ wz = w1) (fun _ i _ => l.length - (intOf i).toNat)
        case atStart => exact ⟨0, true, Nat.zero_le _, rfl, rfl, ⟨rfl⟩, rfl⟩
        case round =>
          obtain ⟨j2, y, hj2, rfl, rfl, HY, hwz⟩ := hrel
          obtain rfl : w1 = wr := hwz.symm
          by_cases hlt2 : j2 < l.length
          · cases y with
            | true =>
              go_wp2_with fail
              go_roundw
              case rel => exact ⟨j2 + 1, true, by omega, by go_num, rfl, ⟨by have := HY.out; rw [Bool.true_or] at this ⊢; exact this⟩, trivial⟩
              case measure => simp [intOf]; omega
            | false =>
              obtain ⟨ad, e0, x0⟩ := C_str (Kd.C_below HR.out (bel w w1)) j2 hlt2
              subst e0
              have hY := HY.out
              rw [List.drop_eq_getElem_cons hlt2] at hY
              unfold inL at hY
              rw [List.any_cons, Bool.false_or] at hY
              generalize l[j2] = z at x0 hY
              have HY2 := Aside0.mk hY
              clear hY HY
              go_wp2_with fail
              go_roundw
              case rel => exact ⟨j2 + 1, _, by omega, by go_num, rfl, HY2, trivial⟩
              case measure => simp [intOf]; omega
          · have hY := HY.out
            rw [List.drop_of_length_le (by omega)] at hY
            have hY : y = (true || inL l q) := by rw [← hY]; unfold inL; simp
            have HY2 := Aside0.mk hY
            clear hY HY
            cases y with
            | true =>
              have hI := HII.out
              rw [if_neg (fun h => absurd h.1 h0)] at hI
              have HI := Aside0.mk hI
              clear hI
              go_wp2_with fail
              go_roundw
              case rel => exact ⟨j + 1, by omega, by go_num, HI, ⟨bel _ _⟩, ⟨inferInstance⟩⟩
              case measure => simp [intOf]; omega
            | false =>
              exact absurd HY2.out (by rw [Bool.true_or]; decide)
    · have hI := HI.out
      obtain rfl : j = 999 := by omega
      simp only [Nat.sub_self, freeN] at hI
      have HI' := Aside0.mk hI
      clear hI HI
      go_wp2_with fail
      go_ret2
      exact ⟨by rw [← HI'.out]; rfl, bel _ _⟩
theorem inL_nil (s : S24) : (fun q => hasK s q || inL [] q) = hasK s := by
  funext q
  exact Bool.or_false _
set_option maxRecDepth 100000 in
set_option maxHeartbeats 2000000 in
theorem rCopy_any (w : World) (s : S24) (v : Array Value) (p : ByteArray) (cp : Nat → ByteArray × Int) (hcp : CopyF 57 p cp) (hs : SideIn w s v) (ho : okS s = true) :
    Calls Tryd.prog 12 #[.agg v, .string p] w fun e w' => e = .returned (.tuple #[.string (copyS cp s).1, .bool (copyS cp s).2]) ∧ Below w.heap.size w w' := by
  have HK := Aside0.mk (fun W (hb : Below w.heap.size w W) => rCheck_any W s v (hs.below hb) ho)
  have hf := fun W (hb : Below w.heap.size w W) => rfree_any W s v p cp hcp (hs.below hb) ho none 0 [] (Kd.C_nil Kd.string W) (by decide)
  rw [inL_nil] at hf
  have HF := Aside0.mk hf
  obtain ⟨A, c, B, d, C, e, rfl, l1, l2, l3, h1, h2, h3⟩ := hs.out
  have h02 := checkS_two s
  unfold copyS
  clear hf
  generalize freeN cp (hasK s) 999 1 = x at HF
  generalize checkS s = k at HK h02
  clear hs ho l1 l2 l3 h1 h2 h3 hcp
  rcases h02 with rfl | rfl
  · rw [if_pos rfl]
    go_enter Tryd.func12, Tryd.ntmps12
    go_wp2_with fail
    refine (HK.out _ (bel _ _)).mono ?_
    rintro r1 w1 ⟨rfl, hb⟩
    have p1 := prev_call hb
    clear hb
    go_wp2_with fail
    refine (HF.out _ (bel _ _)).mono ?_
    rintro r2 w2 ⟨rfl, hb⟩
    have p2 := prev_call hb
    clear hb
    go_wp2_with fail
    go_ret2
    exact ⟨rfl, bel _ _⟩
  · rw [if_neg (by decide)]
    go_enter Tryd.func12, Tryd.ntmps12
    go_wp2_with fail
    refine (HK.out _ (bel _ _)).mono ?_
    rintro r1 w1 ⟨rfl, hb⟩
    have p1 := prev_call hb
    clear hb
    go_wp2_with fail
    go_ret2
    exact ⟨rfl, bel _ _⟩
end Go.Proofs.YtjllbkeobibnkaaDoor.Q

namespace Go.Proofs.YtjllbkeobibnkaaDoor.Q
open Go Go.Proofs Go.Shelf Go.RowKit Go.Lib Go.Sort Go.Proofs.YtjllbkeobibnkaaDoorP Go.Proofs.YtjllbkeobibnkaaDoorK Go.Proofs.YtjllbkeobibnkaaDoorW.PrintWords Go.Proofs.YtjllbkeobibnkaaDoorW.PrintLast Go.Proofs.YtjllbkeobibnkaaDoorW.PrintMore
set_option linter.unusedSimpArgs false
set_option linter.unusedVariables false
/-! ### archive.Merge -/
def mergeA (a : ByteArray) (r : List ByteArray → List ByteArray) : List ByteArray → List ByteArray
  | [] => a :: r []
  | b :: y => if pcmp a b < 0 then a :: r (b :: y) else if 0 < pcmp a b then b :: mergeA a r y else a :: r y
def mergeL : List ByteArray → List ByteArray → List ByteArray
  | [], y => y
  | a :: x, y => mergeA a (mergeL x) y
theorem mergeL_nil (y : List ByteArray) : mergeL [] y = y := rfl
theorem mergeL_end (a : ByteArray) (x : List ByteArray) : mergeL (a :: x) [] = a :: mergeL x [] := rfl
theorem mergeL_cons (a b : ByteArray) (x y : List ByteArray) : mergeL (a :: x) (b :: y) = if pcmp a b < 0 then a :: mergeL x (b :: y) else if 0 < pcmp a b then b :: mergeL (a :: x) y else a :: mergeL x y := rfl
theorem mergeL_len (x : List ByteArray) : ∀ y, (mergeL x y).length ≤ x.length + y.length := by
  induction x with
  | nil => intro y; rw [mergeL_nil]; simp
  | cons a x ih =>
    intro y
    induction y with
    | nil => rw [mergeL_end]; have := ih []; simp at this ⊢; omega
    | cons b y ih2 =>
      rw [mergeL_cons]
      split
      · have := ih (b :: y); simp at this ⊢; omega
      · split
        · simp at ih2 ⊢; omega
        · have := ih y; simp at this ⊢; omega
def pathsK (l : List S58) : List ByteArray := l.map (·.f0)
def lenV : Value → Nat
  | .slice _ n _ => n
  | _ => 0
attribute [local go_sem] A51_size A51_0 A51_1 A51_g0 A51_g1 A58_size A58_0 A58_1 A58_2 A58_g0 A58_g1 A58_g2 cell_held frozen_held
attribute [local go_sem] zero51 zero58 zero65
attribute [local go_sem ↓ high] lvx_of
attribute [local go_sem] lv_sc lv24 lv33
attribute [local go_sem ↓ high] lv51 lv51s lv58 lv58a lv65 lv65a lv65l lv65r sc51 sc58 sc65 sc65a sc65l sc65r sc58a
set_option maxRecDepth 100000 in
set_option maxHeartbeats 4000000 in
theorem merge_any (w : World) (A : Option Addr) (c : Nat) (x : List S58) (B : Option Addr) (d : Nat) (y : List S58) (hC : k58.C w A x.length x) (hx : shortK x = true) (hxc : x.length ≤ c) (hD : k58.C w B y.length y) (hy : shortK y = true) (hyd : y.length ≤ d) :
    Calls Tryd.prog 69 #[.slice A x.length c, .slice B y.length d] w fun e w' => ∃ v, e = .returned v ∧ Kd.string.R 9 w' w.heap.size (fun _ => True) v (mergeL (pathsK x) (pathsK y)) ∧ Below w.heap.size w w' := by
  have hx1 := (shortK_open hx).1
  have hy1 := (shortK_open hy).1
  have HX := Aside0.mk hC
  have HY := Aside0.mk hD
  have HSX := Aside0.mk (shortK_open hx).2
  have HSY := Aside0.mk (shortK_open hy).2
  obtain ⟨R, hR⟩ : ∃ R, mergeL (pathsK x) (pathsK y) = R := ⟨_, rfl⟩
  rw [hR]
  have HR := Aside0.mk hR
  clear hC hD hx hy hR
  go_enter Tryd.func69, Tryd.ntmps69
  go_wp2_with fail
  go_loopw [0, 1, 5] (fun u v o wr => ∃ (A' : Option Addr) (c' : Nat) (xs : List S58) (B' : Option Addr) (d' : Nat) (ys : List S58) (out : List ByteArray), u = .slice A' xs.length c' ∧ v = .slice B' ys.length d' ∧ xs.length ≤ c' ∧ ys.length ≤ d' ∧ Aside0 (k58.C w A' xs.length xs) ∧ Aside0 (k58.C w B' ys.length ys) ∧ Aside0 (∀ k ∈ xs, k.f0.size ≤ 65536) ∧ Aside0 (∀ k ∈ ys, k.f0.size ≤ 65536) ∧ Aside0 (out ++ mergeL (pathsK xs) (pathsK ys) = R) ∧ out.length + xs.length + ys.length ≤ 2097152 ∧ Aside0 (Kd.string.R 9 wr w.heap.size (fun _ => True) o out) ∧ Aside0 (Below w.heap.size w wr)) (fun u v _ _ => lenV u + lenV v)
  case atStart => exact ⟨A, c, x, B, d, y, [], rfl, rfl, hxc, hyd, HX, HY, HSX, HSY, HR, by simp; omega, ⟨Kd.R_nil _ _ _ _ _⟩, ⟨bel _ _⟩⟩
  case round =>
    obtain ⟨A', c', xs, B', d', ys, out, rfl, rfl, hc', hd', HX', HY', HZX, HZY, HI, hlen, HO, HB⟩ := hrel
    have bw : Bel w.heap.size w wr := ⟨fun _ => HB.out⟩
    clear HX HY HSX HSY HR
    obtain ⟨Ao, co, ho⟩ := Kd.R_slice HO.out
    subst ho
    cases xs with
    | nil => cases ys with
      | nil =>
        have hI := HI.out
        simp only [pathsK, List.map_nil, mergeL_nil, List.append_nil] at hI
        subst hI
        go_wp2_with fail
        go_ret
        exact ⟨_, rfl, HO.out, bel _ _⟩
      | cons b ys =>
        have HXC := HX'
        clear HX'
        obtain ⟨ad, ey, y0⟩ := C58_at HY'.out 0 (by simp)
        subst ey
        simp only [List.getElem_cons_zero] at y0
        have yq := At_below y0 HB.out
        rw [Nat.zero_mul, add_zero_] at yq
        have YQ := Aside0.mk yq
        have y1 := (At58 yq).1
        rw [add_zero_] at y1
        have hyd := Kd.C_drop HY'.out (m := 1) (by simp) hd'
        simp only [List.drop_succ_cons, List.drop_zero] at hyd
        have HYD := Aside0.mk hyd
        have hI := HI.out
        simp only [pathsK, List.map_nil, List.map_cons, mergeL_nil] at hI
        rw [← List.singleton_append, ← List.append_assoc] at hI
        have HIN : Aside0 ((out ++ [b.f0]) ++ mergeL (pathsK []) (pathsK ys) = R) := ⟨hI⟩
        have HZYD : Aside0 (∀ k ∈ ys, k.f0.size ≤ 65536) := ⟨fun k hk => HZY.out k (List.mem_cons_of_mem _ hk)⟩
        simp only [List.length_cons] at hlen hd' ⊢
        clear y0 yq hyd hI HI
        go_wp2_with ((with_reducible refine gate_builtin (b := .append) (xs := #[.tmp 43, .tmp 48]) rfl ?_); at_builtin; refine app41 (w0 := w) w.heap.size rfl (.tmp 43) (.tmp 48) rfl (.slice Ao out.length co) out b.f0 rfl ?aX ?aO ?aB ?aS ?aL ?_; (case aX => first | rfl | (simp only [World.size_setCell, size_setRow, World.size_alloc]; rfl)); (case aO => exact rowB HO.out (bel wr _)); (case aB => exact (inferInstance : Bel w.heap.size w _).out (by first | exact Nat.le_refl _ | omega)); (case aS => first | exact siz w _ | (have := siz w _; omega)); (case aL => omega); intro v6 w6 h6 hb6 hg6 hat6; have p6 := prev_above hb6; have HB6 := Aside0.mk hb6; have HV6 := Aside0.mk h6; clear hb6 h6 hg6 hat6)
        go_roundw
        case rel => exact ⟨_, _, [], _, _, ys, _, rfl, rfl, by simp only [List.length_cons, List.length_nil] at *; omega, by simp only [List.length_cons, List.length_nil] at *; omega, HXC, HYD, HZX, HZYD, HIN, by simp only [List.length_append, List.length_cons, List.length_nil] at *; omega, HV6, HB6⟩
        case measure => simp only [lenV, List.length_cons, List.length_nil]; omega
    | cons a xs => cases ys with
      | nil =>
        have HYC := HY'
        clear HY'
        obtain ⟨ae, ex, x0⟩ := C58_at HX'.out 0 (by simp)
        subst ex
        simp only [List.getElem_cons_zero] at x0
        have xq := At_below x0 HB.out
        rw [Nat.zero_mul, add_zero_] at xq
        have XQ := Aside0.mk xq
        have x1 := (At58 xq).1
        rw [add_zero_] at x1
        have hxd := Kd.C_drop HX'.out (m := 1) (by simp) hc'
        simp only [List.drop_succ_cons, List.drop_zero] at hxd
        have HXD := Aside0.mk hxd
        have hI := HI.out
        simp only [pathsK, List.map_nil, List.map_cons, mergeL_end] at hI
        rw [← List.singleton_append, ← List.append_assoc] at hI
        have HIN : Aside0 ((out ++ [a.f0]) ++ mergeL (pathsK xs) (pathsK []) = R) := ⟨hI⟩
        have HZXD : Aside0 (∀ k ∈ xs, k.f0.size ≤ 65536) := ⟨fun k hk => HZX.out k (List.mem_cons_of_mem _ hk)⟩
        simp only [List.length_cons] at hlen hc' ⊢
        clear x0 xq hxd hI HI
        go_wp2_with ((with_reducible refine gate_builtin (b := .append) (xs := #[.tmp 34, .tmp 39]) rfl ?_); at_builtin; refine app41 (w0 := w) w.heap.size rfl (.tmp 34) (.tmp 39) rfl (.slice Ao out.length co) out a.f0 rfl ?aX ?aO ?aB ?aS ?aL ?_; (case aX => first | rfl | (simp only [World.size_setCell, size_setRow, World.size_alloc]; rfl)); (case aO => exact rowB HO.out (bel wr _)); (case aB => exact (inferInstance : Bel w.heap.size w _).out (by first | exact Nat.le_refl _ | omega)); (case aS => first | exact siz w _ | (have := siz w _; omega)); (case aL => omega); intro v6 w6 h6 hb6 hg6 hat6; have p6 := prev_above hb6; have HB6 := Aside0.mk hb6; have HV6 := Aside0.mk h6; clear hb6 h6 hg6 hat6)
        go_roundw
        case rel => exact ⟨_, _, xs, _, _, [], _, rfl, rfl, by simp only [List.length_cons, List.length_nil] at *; omega, by simp only [List.length_cons, List.length_nil] at *; omega, HXD, HYC, HZXD, HZY, HIN, by simp only [List.length_append, List.length_cons, List.length_nil] at *; omega, HV6, HB6⟩
        case measure => simp only [lenV, List.length_cons, List.length_nil]; omega
      | cons b ys =>
        obtain ⟨ae, ex, x0⟩ := C58_at HX'.out 0 (by simp)
        subst ex
        simp only [List.getElem_cons_zero] at x0
        have xq := At_below x0 HB.out
        rw [Nat.zero_mul, add_zero_] at xq
        have XQ := Aside0.mk xq
        have x1 := (At58 xq).1
        rw [add_zero_] at x1
        obtain ⟨ad, ey, y0⟩ := C58_at HY'.out 0 (by simp)
        subst ey
        simp only [List.getElem_cons_zero] at y0
        have yq := At_below y0 HB.out
        rw [Nat.zero_mul, add_zero_] at yq
        have YQ := Aside0.mk yq
        have y1 := (At58 yq).1
        rw [add_zero_] at y1
        have hxd := Kd.C_drop HX'.out (m := 1) (by simp) hc'
        simp only [List.drop_succ_cons, List.drop_zero] at hxd
        have HXD := Aside0.mk hxd
        have hyd := Kd.C_drop HY'.out (m := 1) (by simp) hd'
        simp only [List.drop_succ_cons, List.drop_zero] at hyd
        have HYD := Aside0.mk hyd
        have HZXD : Aside0 (∀ k ∈ xs, k.f0.size ≤ 65536) := ⟨fun k hk => HZX.out k (List.mem_cons_of_mem _ hk)⟩
        have HZYD : Aside0 (∀ k ∈ ys, k.f0.size ≤ 65536) := ⟨fun k hk => HZY.out k (List.mem_cons_of_mem _ hk)⟩
        have HXC := HX'
        have HYC := HY'
        have sa := HZX.out a List.mem_cons_self
        have sb := HZY.out b List.mem_cons_self
        have hcmp := fun W => cmp_any W a.f0 b.f0 (by omega) (by omega)
        have HCP := Aside0.mk hcmp
        have hI := HI.out
        simp only [pathsK, List.map_cons, mergeL_cons] at hI
        have HII := Aside0.mk hI
        simp only [List.length_cons] at hlen hc' hd' ⊢
        clear x0 xq y0 yq hxd hyd hI HI sa sb hcmp HX' HY'
        obtain ⟨c0, hc0⟩ : ∃ c0, pcmp a.f0 b.f0 = c0 := ⟨_, rfl⟩
        simp only [hc0] at HCP HII
        clear hc0
        rcases (show c0 < 0 ∨ 0 < c0 ∨ c0 = 0 by omega) with h0 | h0 | h0
        · have hI := HII.out
          rw [if_pos h0, ← List.singleton_append, ← List.append_assoc] at hI
          have HIN : Aside0 ((out ++ [a.f0]) ++ mergeL (pathsK xs) (pathsK (b :: ys)) = R) := ⟨hI⟩
          have g1 : c0 ≤ 0 := by omega
          have g2 : ¬ 0 ≤ c0 := by omega
          clear hI HII h0
          go_wp2_with fail
          go_still_tail 8, (by kernel_rfl)
          change wpList _ _ _ _ _ wr.drew
          have p2 : Prev wr.drew wr .none := inferInstance
          generalize wr.drew = w2 at p2 ⊢
          go_wp2_with fail
          refine (HCP.out _).mono ?_
          rintro e w3 ⟨rfl, q, os, hb⟩
          have p3 : Prev w3 w2 .none := prev_call (hb ▸ grow_below w2 q os)
          have x3 := (At58 (At_below XQ.out (bel wr w3))).1
          have y3 := (At58 (At_below YQ.out (bel wr w3))).1
          rw [add_zero_] at x3 y3
          clear hb
          go_wp2_with ((with_reducible refine gate_builtin (b := .append) (xs := #[.tmp 34, .tmp 39]) rfl ?_); at_builtin; refine app41 (w0 := w) w.heap.size rfl (.tmp 34) (.tmp 39) rfl (.slice Ao out.length co) out a.f0 rfl ?aX ?aO ?aB ?aS ?aL ?_; (case aX => first | rfl | (simp only [World.size_setCell, size_setRow, World.size_alloc]; rfl)); (case aO => exact rowB HO.out (bel wr _)); (case aB => exact (inferInstance : Bel w.heap.size w _).out (by first | exact Nat.le_refl _ | omega)); (case aS => first | exact siz w _ | (have := siz w _; omega)); (case aL => omega); intro v6 w6 h6 hb6 hg6 hat6; have p6 := prev_above hb6; have HB6 := Aside0.mk hb6; have HV6 := Aside0.mk h6; clear hb6 h6 hg6 hat6)
          go_roundw
          case rel => exact ⟨_, _, xs, _, _, (b :: ys), _, rfl, rfl, by simp only [List.length_cons, List.length_nil] at *; omega, by simp only [List.length_cons, List.length_nil] at *; omega, HXD, HYC, HZXD, HZY, HIN, by simp only [List.length_append, List.length_cons, List.length_nil] at *; omega, HV6, HB6⟩
          case measure => simp only [lenV, List.length_cons, List.length_nil]; omega
        · have hI := HII.out
          rw [if_neg (by omega), if_pos h0, ← List.singleton_append, ← List.append_assoc] at hI
          have HIN : Aside0 ((out ++ [b.f0]) ++ mergeL (pathsK (a :: xs)) (pathsK ys) = R) := ⟨hI⟩
          have g1 : ¬ c0 ≤ 0 := by omega
          have g2 : 0 ≤ c0 := by omega
          clear hI HII h0
          go_wp2_with fail
          go_still_tail 8, (by kernel_rfl)
          change wpList _ _ _ _ _ wr.drew
          have p2 : Prev wr.drew wr .none := inferInstance
          generalize wr.drew = w2 at p2 ⊢
          go_wp2_with fail
          refine (HCP.out _).mono ?_
          rintro e w3 ⟨rfl, q, os, hb⟩
          have p3 : Prev w3 w2 .none := prev_call (hb ▸ grow_below w2 q os)
          have x3 := (At58 (At_below XQ.out (bel wr w3))).1
          have y3 := (At58 (At_below YQ.out (bel wr w3))).1
          rw [add_zero_] at x3 y3
          clear hb
          go_wp2_with ((with_reducible refine gate_builtin (b := .append) (xs := #[.tmp 43, .tmp 48]) rfl ?_); at_builtin; refine app41 (w0 := w) w.heap.size rfl (.tmp 43) (.tmp 48) rfl (.slice Ao out.length co) out b.f0 rfl ?aX ?aO ?aB ?aS ?aL ?_; (case aX => first | rfl | (simp only [World.size_setCell, size_setRow, World.size_alloc]; rfl)); (case aO => exact rowB HO.out (bel wr _)); (case aB => exact (inferInstance : Bel w.heap.size w _).out (by first | exact Nat.le_refl _ | omega)); (case aS => first | exact siz w _ | (have := siz w _; omega)); (case aL => omega); intro v6 w6 h6 hb6 hg6 hat6; have p6 := prev_above hb6; have HB6 := Aside0.mk hb6; have HV6 := Aside0.mk h6; clear hb6 h6 hg6 hat6)
          go_roundw
          case rel => exact ⟨_, _, (a :: xs), _, _, ys, _, rfl, rfl, by simp only [List.length_cons, List.length_nil] at *; omega, by simp only [List.length_cons, List.length_nil] at *; omega, HXC, HYD, HZX, HZYD, HIN, by simp only [List.length_append, List.length_cons, List.length_nil] at *; omega, HV6, HB6⟩
          case measure => simp only [lenV, List.length_cons, List.length_nil]; omega
        · subst h0
          have hI := HII.out
          rw [if_neg (by omega), if_neg (by omega), ← List.singleton_append, ← List.append_assoc] at hI
          have HIN : Aside0 ((out ++ [a.f0]) ++ mergeL (pathsK xs) (pathsK ys) = R) := ⟨hI⟩
          clear hI HII
          go_wp2_with fail
          go_still_tail 8, (by kernel_rfl)
          change wpList _ _ _ _ _ wr.drew
          have p2 : Prev wr.drew wr .none := inferInstance
          generalize wr.drew = w2 at p2 ⊢
          go_wp2_with fail
          refine (HCP.out _).mono ?_
          rintro e w3 ⟨rfl, q, os, hb⟩
          have p3 : Prev w3 w2 .none := prev_call (hb ▸ grow_below w2 q os)
          have x3 := (At58 (At_below XQ.out (bel wr w3))).1
          have y3 := (At58 (At_below YQ.out (bel wr w3))).1
          rw [add_zero_] at x3 y3
          clear hb
          go_wp2_with ((with_reducible refine gate_builtin (b := .append) (xs := #[.tmp 34, .tmp 39]) rfl ?_); at_builtin; refine app41 (w0 := w) w.heap.size rfl (.tmp 34) (.tmp 39) rfl (.slice Ao out.length co) out a.f0 rfl ?aX ?aO ?aB ?aS ?aL ?_; (case aX => first | rfl | (simp only [World.size_setCell, size_setRow, World.size_alloc]; rfl)); (case aO => exact rowB HO.out (bel wr _)); (case aB => exact (inferInstance : Bel w.heap.size w _).out (by first | exact Nat.le_refl _ | omega)); (case aS => first | exact siz w _ | (have := siz w _; omega)); (case aL => omega); intro v6 w6 h6 hb6 hg6 hat6; have p6 := prev_above hb6; have HB6 := Aside0.mk hb6; have HV6 := Aside0.mk h6; clear hb6 h6 hg6 hat6)
          go_roundw
          case rel => exact ⟨_, _, xs, _, _, ys, _, rfl, rfl, by simp only [List.length_cons, List.length_nil] at *; omega, by simp only [List.length_cons, List.length_nil] at *; omega, HXD, HYD, HZXD, HZYD, HIN, by simp only [List.length_append, List.length_cons, List.length_nil] at *; omega, HV6, HB6⟩
          case measure => simp only [lenV, List.length_cons, List.length_nil]; omega
end Go.Proofs.YtjllbkeobibnkaaDoor.Q
