/- Parts of the proof: PK, HCut, HSplit, HLib, HKind, HBelow, KA, HCmp, PScope, PL, PRefM, HList, HMerge, HBsf, HConc. -/
import Derived.Test.YtjllbkeobibnkaaDoorZS1
import Derived.Lib.IndexBytes
import Derived.Lib.IndexMore
import Derived.WalkKit
import Derived.Shelf.Strings.Cut
import Derived.IntWalk
import Derived.Shelf.Strings.Split
import Derived.Shelf.Small.Strs
import Derived.Shelf.Strings.Search1
import Derived.Shelf.Strings.LastIndex
import Derived.Shelf.SlicesG.Cmp
import Derived.Test.YtjllbkeobibnkaaDoorProg
import Derived.Sort.Grow
import Derived.RangeFuncNested
import Derived.RangeFuncBound
import Derived.RangeFuncCalls
import Derived.RangeFuncLeaves
import Derived.Shelf.Abstract
import Derived.Shelf.RegionOpen
import Derived.OwnWalkIn
import Derived.TacticsInMore
import Derived.LoopNIn
import Derived.LoopIn
import Derived.Maps.AppendAt
import Derived.Test.YtjllbkeobibnkaaDoorWTab
import Derived.Test.YtjllbkeobibnkaaDoorWMore
import Derived.Shelf.SlSortCmp.WholeK
import Derived.Test.YtjllbkeobibnkaaDoorWWords
import Derived.StillTailTactics
import Derived.BigQuiet
set_option linter.unusedVariables false
set_option linter.unusedSimpArgs false
namespace Go.Proofs.YtjllbkeobibnkaaDoorP
open Go Go.Lib
def signB (c : UInt8) : Bool := (decide (97 ≤ c) && decide (c ≤ 122)) || ((decide (48 ≤ c) && decide (c ≤ 57)) || (c == 95 || (c == 45 || c == 126)))
def signsL : List UInt8 := [97, 98, 99, 100, 101, 102, 103, 104, 105, 106, 107, 108, 109, 110, 111, 112, 113, 114, 115, 116, 117, 118, 119, 120, 121, 122, 48, 49, 50, 51, 52, 53, 54, 55, 56, 57, 95, 45, 126]
theorem signs_all : (List.range 256).all (fun n => decide (indexByte signsL (UInt8.ofNat n) < 0) == !signB (UInt8.ofNat n)) = true := by kernel_rfl
theorem signs_index (c : UInt8) : decide (indexByte signsL c < 0) = !signB c := by
  have h := List.all_eq_true.1 signs_all c.toNat (List.mem_range.2 c.toNat_lt)
  rw [UInt8.ofNat_toNat, beq_iff_eq] at h
  exact h
def plainL (s : List UInt8) : Bool := s.all signB && !s.isEmpty
/-- A name's kind; 0: it is none. -/
def kindL (s : List UInt8) : Int :=
  if 24 < s.length then 0 else if plainL (cut s [46]).1 = false then 0 else if (cut s [46]).2.2 = false then 1 else if plainL (cut s [46]).2.1 = true then 2 else 0
/-- The last one's kind, if all are names, and only the last one is a file's. -/
def kindsL : List (List UInt8) → Int → Option Int
  | [], k => some k
  | n :: l, _ => if kindL n = 0 then none else if kindL n = 2 ∧ l ≠ [] then none else kindsL l (kindL n)
def kindS (p : ByteArray) : Int × Int :=
  if 96 < p.size then (0, 3) else if p.size = 0 then (1, 0) else match kindsL (names p.data.toList) 0 with
    | none => (0, 18)
    | some k => if 8 < (names p.data.toList).length then (0, 7) else (k, 0)
theorem kindL_cases (s : List UInt8) : kindL s = 0 ∨ kindL s = 1 ∨ kindL s = 2 := by
  unfold kindL
  split
  · exact .inl rfl
  · split
    · exact .inl rfl
    · split
      · exact .inr (.inl rfl)
      · split
        · exact .inr (.inr rfl)
        · exact .inl rfl
end Go.Proofs.YtjllbkeobibnkaaDoorP

namespace Go.Proofs.YtjllbkeobibnkaaDoorP
open Go Go.Proofs Go.Shelf Go.RowKit Go.Lib
variable {P : Program} {ρ : Ren}
set_option maxHeartbeats 2000000 in
set_option maxRecDepth 100000 in
theorem lite_cut_one (L : Lays.n220 P ρ) (s : ByteArray) (b : UInt8) (w : World) (hs : s.size < 4294967281) :
    Calls P (ρ.f 220) #[.string s, .string ⟨#[b]⟩] w fun e w' => e = .returned (.tuple #[.string ⟨(Lib.cut s.data.toList [b]).1.toArray⟩, .string ⟨(Lib.cut s.data.toList [b]).2.1.toArray⟩, .bool (Lib.cut s.data.toList [b]).2.2]) ∧ ∃ n, w' = w.drewN n := by
  have e0 : (⟨#[b]⟩ : ByteArray).data.toList = [b] := rfl
  rcases Lib.indexB_cases s ⟨#[b]⟩ with hix | ⟨i, hix, hroom⟩
  · obtain ⟨e1, e2, e3⟩ := Lib.cutB_miss s ⟨#[b]⟩ hix
    rw [e0] at e1 e2 e3
    rw [e1, e2, e3]
    have t3 := L.t3; have t4 := L.t4; have t9 := L.t9
    have a3 : ∀ w, (isAgg (ρ.t 3)).run P w = .ok false w := run_isAgg_plain L.t3 rfl; have a4 : ∀ w, (isAgg (ρ.t 4)).run P w = .ok false w := run_isAgg_plain L.t4 rfl; have a9 : ∀ w, (isAgg (ρ.t 9)).run P w = .ok false w := run_isAgg_plain L.t9 rfl
    have e219 : ∀ args w, (callFunc (ρ.f 219) args).run P w = .ok (.enter (ρ.f 219) args) w := enters_of L.f219 (by kernel_rfl) rfl
    have mixed := L.mixed; have z3 := L.z3; have v3 := L.v3; have z4 := L.z4; have v4 := L.v4; have z9 := L.z9; have v9 := L.v9
    have hib : Lib.indexByte s.data.toList b = -1 := by rw [← Lib.index_one]; exact hix
    go_enter L.f220, Body.n220_ntmps ρ
    go_wp2_with (go_at_fn (ρ.f 219); refine (Any.stringslite_Index_one { L with } _ _ _).mono ?_; rintro e w' ⟨rfl, rfl⟩; rw [hib])
    go_ret3
    exact ⟨rfl, 0, rfl⟩
  · obtain ⟨e1, e2, e3⟩ := Lib.cutB_hit s ⟨#[b]⟩ i hix
    have hs1 : (⟨#[b]⟩ : ByteArray).size = 1 := rfl
    rw [e0] at e1 e2 e3
    rw [e1, e2, e3]
    rw [hs1] at hroom
    have hib : Lib.indexByte s.data.toList b = (i : Int) := by rw [← Lib.index_one]; exact hix
    have c1 : (0 : Int) ≤ ↑i := by omega
    have c2 : (↑i : Int) ≤ ↑s.size := by omega
    have c3 : (0 : Int) ≤ ↑i + 1 := by omega
    have c4 : (↑i + 1 : Int) ≤ ↑s.size := by omega
    have c5 : IntKind.i64.wrap ((i : Int) + 1) = (i : Int) + 1 := IntWalk.i64_in _ (by omega)
    have t3 := L.t3; have t4 := L.t4; have t9 := L.t9
    have a3 : ∀ w, (isAgg (ρ.t 3)).run P w = .ok false w := run_isAgg_plain L.t3 rfl; have a4 : ∀ w, (isAgg (ρ.t 4)).run P w = .ok false w := run_isAgg_plain L.t4 rfl; have a9 : ∀ w, (isAgg (ρ.t 9)).run P w = .ok false w := run_isAgg_plain L.t9 rfl
    have e219 : ∀ args w, (callFunc (ρ.f 219) args).run P w = .ok (.enter (ρ.f 219) args) w := enters_of L.f219 (by kernel_rfl) rfl
    have mixed := L.mixed; have z3 := L.z3; have v3 := L.v3; have z4 := L.z4; have v4 := L.v4; have z9 := L.z9; have v9 := L.v9
    go_enter L.f220, Body.n220_ntmps ρ
    go_wp2_with (go_at_fn (ρ.f 219); refine (Any.stringslite_Index_one { L with } _ _ _).mono ?_; rintro e w' ⟨rfl, rfl⟩; rw [hib])
    go_region_o
    go_wp2
    go_ret3
    exact ⟨rfl, 1, rfl⟩
set_option maxHeartbeats 1000000 in
theorem cut_one (L : Lays.n145 P ρ) (s : ByteArray) (b : UInt8) (w : World) (hs : s.size < 4294967281) :
    Calls P (ρ.f 145) #[.string s, .string ⟨#[b]⟩] w fun e w' => e = .returned (.tuple #[.string ⟨(Lib.cut s.data.toList [b]).1.toArray⟩, .string ⟨(Lib.cut s.data.toList [b]).2.1.toArray⟩, .bool (Lib.cut s.data.toList [b]).2.2]) ∧ ∃ n, w' = w.drewN n := by
  have t4 := L.t4; have t9 := L.t9; have t59 := L.t59
  have a4 : ∀ w, (isAgg (ρ.t 4)).run P w = .ok false w := run_isAgg_plain L.t4 rfl; have a9 : ∀ w, (isAgg (ρ.t 9)).run P w = .ok false w := run_isAgg_plain L.t9 rfl; have a59 : ∀ w, (isAgg (ρ.t 59)).run P w = .ok false w := run_isAgg_plain L.t59 rfl
  have e220 : ∀ args w, (callFunc (ρ.f 220) args).run P w = .ok (.enter (ρ.f 220) args) w := enters_of L.f220 (by kernel_rfl) rfl
  have mixed := L.mixed; have z4 := L.z4; have v4 := L.v4; have z9 := L.z9; have v9 := L.v9; have z59 := L.z59; have v59 := L.v59
  go_enter L.f145, Body.n145_ntmps ρ
  go_wp2_with (go_at_fn (ρ.f 220); refine (lite_cut_one { L with } _ _ _ hs).mono ?_; rintro e w' ⟨rfl, n, rfl⟩)
  go_ret3
  exact ⟨rfl, n, rfl⟩
end Go.Proofs.YtjllbkeobibnkaaDoorP

namespace Go.Proofs.YtjllbkeobibnkaaDoorP
open Go Go.Proofs Go.Shelf Go.RowKit Go.Lib
variable {P : Program} {ρ : Ren}
set_option maxHeartbeats 1000000 in
theorem split_one (L : Lays.n146 P ρ) (hi9 : (P.info? (ρ.t 9)).map (fun i => (i.zero, i.size, i.bytes)) = some (some (.string ByteArray.empty), 1, 16)) (s : ByteArray) (b : UInt8) (w : World) (hs : s.size < 4294967281) :
    Calls P (ρ.f 146) #[.string s, .string ⟨#[b]⟩] w fun e w' =>
      e = .returned (.slice (some ⟨w.heap.size, 0, none⟩) (Lib.countB s ⟨#[b]⟩ + 1) (Lib.countB s ⟨#[b]⟩ + 1)) ∧ w' = w.alloc (.cells ((Lib.splitB ⟨#[b]⟩ 0 (Lib.countB s ⟨#[b]⟩) s).map Value.string).toArray (ρ.t 9)) := by
  have h1 : 1 ≤ (⟨#[b]⟩ : ByteArray).size := Nat.le_refl 1
  have hle := Lib.countB_le ⟨#[b]⟩ h1 s.size s (Nat.le_refl _)
  have hlen := Lib.splitB_all ⟨#[b]⟩ h1 0 _ s rfl
  have hcnt : Calls P (ρ.f 138) #[.string s, .string ⟨#[b]⟩] w fun e w' => e = .returned (.int .i64 (Lib.countB s ⟨#[b]⟩)) ∧ w' = w := by
    refine (Any.strings_Count_one { L with } s b w).mono fun e w' ⟨he, hw⟩ => ⟨?_, hw⟩
    rw [he]
    show _ = Ending.returned (Value.int .i64 ((Lib.count s.data.toList [b] : Nat) : Int))
    rw [Lib.count_one]
    rfl
  have c := Any.strings_genSplit_core { L with } hi9 s ⟨#[b]⟩ 0 (-1) (Lib.countB s ⟨#[b]⟩ + 1) w hs h1 (Nat.zero_le _)
    (fun x c _ => (Any.strings_Index_one { L with } x b _).mono (fun e w' h => ⟨by rw [h.1]; show _ = Ending.returned (Value.int .i64 (Lib.index x.data.toList [b])); rw [Lib.index_one], h.2⟩)) hcnt (by decide) (by decide) (by rw [if_pos (by decide)]; omega)
  rw [Nat.add_sub_cancel, hlen] at c
  have e2 : Lib.cellsOf (Lib.splitB ⟨#[b]⟩ 0 (Lib.countB s ⟨#[b]⟩) s) (Lib.countB s ⟨#[b]⟩ + 1) = ((Lib.splitB ⟨#[b]⟩ 0 (Lib.countB s ⟨#[b]⟩) s).map Value.string).toArray := by rw [← hlen]; exact Lib.cellsOf_full _
  rw [e2] at c
  have t3 := L.t3; have t9 := L.t9; have t31 := L.t31
  have a3 := L.a3; have a9 := L.a9; have a31 := L.a31
  have z3 := L.z3; have v3 := L.v3; have z9 := L.z9; have v9 := L.v9; have z31 := L.z31; have v31 := L.v31
  have e221 : ∀ args w, (callFunc (ρ.f 221) args).run P w = .ok (.enter (ρ.f 221) args) w := enters_of L.f221 (by kernel_rfl) rfl
  go_enter L.f146, Body.n146_ntmps ρ
  go_wp2_with (go_at_fn (ρ.f 221); refine c.mono ?_; rintro e w' ⟨rfl, hw⟩; rw [hw])
  go_ret
  exact ⟨rfl, rfl⟩
end Go.Proofs.YtjllbkeobibnkaaDoorP

namespace Go.Proofs.YtjllbkeobibnkaaDoor.Q
open Go Go.Proofs Go.Shelf
def laySplit_ren : Go.Shelf.Ren := ⟨fun | 146 => 71 | 221 => 86 | 268 => 96 | 138 => 97 | 143 => 98 | 195 => 104 | 197 => 105 | 218 => 106 | 219 => 107 | 260 => 109 | 217 => 108 | 225 => 110 | 224 => 111 | 267 => 112 | 266 => 113 | 314 => 114 | n => n, fun | 9 => 9 | 31 => 41 | 3 => 3 | 4 => 4 | 0 => 0 | 105 => 127 | 21 => 21 | 5 => 5 | 46 => 111 | 119 => 130 | 139 => 133 | 138 => 132 | 146 => 135 | 51 => 134 | n => n, fun | 1 => 0 | 3 => 1 | 4 => 2 | n => n⟩
set_option maxRecDepth 100000 in
theorem laySplit : Go.Proofs.Lays.n146 Tryd.prog laySplit_ren := {
  mixed := by kernel_rfl,
  f138 := Tryd.func97.trans (congrArg some (by kernel_rfl)),
  f143 := Tryd.func98.trans (congrArg some (by kernel_rfl)),
  f146 := Tryd.func71.trans (congrArg some (by kernel_rfl)),
  f195 := Tryd.func104.trans (congrArg some (by kernel_rfl)),
  f197 := Tryd.func105.trans (congrArg some (by kernel_rfl)),
  f217 := Tryd.func108.trans (congrArg some (by kernel_rfl)),
  f218 := Tryd.func106.trans (congrArg some (by kernel_rfl)),
  f219 := Tryd.func107.trans (congrArg some (by kernel_rfl)),
  f221 := Tryd.func86.trans (congrArg some (by kernel_rfl)),
  f224 := Tryd.func111.trans (congrArg some (by kernel_rfl)),
  f225 := Tryd.func110.trans (congrArg some (by kernel_rfl)),
  f260 := Tryd.func109.trans (congrArg some (by kernel_rfl)),
  f266 := Tryd.func113.trans (congrArg some (by kernel_rfl)),
  f267 := Tryd.func112.trans (congrArg some (by kernel_rfl)),
  f268 := Tryd.func96.trans (congrArg some (by kernel_rfl)),
  f314 := Tryd.func114.trans (congrArg some (by kernel_rfl)),
  t0 := Tryd.underlying0,
  a0 := Tryd.isAgg0,
  z0 := Tryd.sizeOf0,
  v0 := Tryd.zeroValue0,
  t3 := Tryd.underlying3,
  a3 := Tryd.isAgg3,
  z3 := Tryd.sizeOf3,
  v3 := Tryd.zeroValue3,
  t4 := Tryd.underlying4,
  a4 := Tryd.isAgg4,
  z4 := Tryd.sizeOf4,
  v4 := Tryd.zeroValue4,
  t5 := Tryd.underlying5,
  a5 := Tryd.isAgg5,
  z5 := Tryd.sizeOf5,
  v5 := Tryd.zeroValue5,
  t9 := Tryd.underlying9,
  a9 := Tryd.isAgg9,
  z9 := Tryd.sizeOf9,
  v9 := Tryd.zeroValue9,
  t21 := Tryd.underlying21,
  a21 := Tryd.isAgg21,
  z21 := Tryd.sizeOf21,
  v21 := Tryd.zeroValue21,
  t31 := Tryd.underlying41,
  a31 := Tryd.isAgg41,
  z31 := Tryd.sizeOf41,
  v31 := Tryd.zeroValue41,
  t46 := Tryd.underlying111,
  a46 := Tryd.isAgg111,
  z46 := Tryd.sizeOf111,
  v46 := Tryd.zeroValue111,
  t51 := Tryd.underlying134,
  a51 := Tryd.isAgg134,
  z51 := Tryd.sizeOf134,
  v51 := Tryd.zeroValue134,
  t105 := Tryd.underlying127,
  a105 := Tryd.isAgg127,
  z105 := Tryd.sizeOf127,
  v105 := Tryd.zeroValue127,
  t119 := Tryd.underlying130,
  a119 := Tryd.isAgg130,
  z119 := Tryd.sizeOf130,
  t138 := Tryd.underlying132,
  a138 := Tryd.isAgg132,
  z138 := Tryd.sizeOf132,
  v138 := Tryd.zeroValue132,
  t139 := Tryd.underlying133,
  a139 := Tryd.isAgg133,
  z139 := Tryd.sizeOf133,
  v139 := Tryd.zeroValue133,
  t146 := Tryd.underlying135,
  a146 := Tryd.isAgg135,
  z146 := Tryd.sizeOf135,
  v146 := Tryd.zeroValue135,
  g1 := by kernel_rfl,
  g3 := by kernel_rfl,
  g4 := by kernel_rfl }
def layStrCmp_ren : Go.Shelf.Ren := ⟨fun | 106 => 81 | 213 => 93 | 265 => 103 | n => n, fun | 9 => 9 | 3 => 3 | n => n, fun | n => n⟩
set_option maxRecDepth 100000 in
theorem layStrCmp : Go.Proofs.Lays.n106 Tryd.prog layStrCmp_ren := {
  mixed := by kernel_rfl,
  f106 := Tryd.func81.trans (congrArg some (by kernel_rfl)),
  f213 := Tryd.func93.trans (congrArg some (by kernel_rfl)),
  f265 := Tryd.func103.trans (congrArg some (by kernel_rfl)),
  t3 := Tryd.underlying3,
  a3 := Tryd.isAgg3,
  z3 := Tryd.sizeOf3,
  v3 := Tryd.zeroValue3,
  t9 := Tryd.underlying9,
  a9 := Tryd.isAgg9,
  z9 := Tryd.sizeOf9,
  v9 := Tryd.zeroValue9 }
def layCut_ren : Go.Shelf.Ren := ⟨fun | 145 => 87 | 220 => 99 | 219 => 107 | 217 => 108 | 225 => 110 | 224 => 111 | 267 => 112 | 266 => 113 | 314 => 114 | n => n, fun | 9 => 9 | 4 => 4 | 59 => 116 | 3 => 3 | 5 => 5 | 46 => 111 | 146 => 135 | 51 => 134 | n => n, fun | 1 => 0 | n => n⟩
set_option maxRecDepth 100000 in
theorem layCut : Go.Proofs.Lays.n145 Tryd.prog layCut_ren := {
  mixed := by kernel_rfl,
  f145 := Tryd.func87.trans (congrArg some (by kernel_rfl)),
  f217 := Tryd.func108.trans (congrArg some (by kernel_rfl)),
  f219 := Tryd.func107.trans (congrArg some (by kernel_rfl)),
  f220 := Tryd.func99.trans (congrArg some (by kernel_rfl)),
  f224 := Tryd.func111.trans (congrArg some (by kernel_rfl)),
  f225 := Tryd.func110.trans (congrArg some (by kernel_rfl)),
  f266 := Tryd.func113.trans (congrArg some (by kernel_rfl)),
  f267 := Tryd.func112.trans (congrArg some (by kernel_rfl)),
  f314 := Tryd.func114.trans (congrArg some (by kernel_rfl)),
  t3 := Tryd.underlying3,
  a3 := Tryd.isAgg3,
  z3 := Tryd.sizeOf3,
  v3 := Tryd.zeroValue3,
  t4 := Tryd.underlying4,
  a4 := Tryd.isAgg4,
  z4 := Tryd.sizeOf4,
  v4 := Tryd.zeroValue4,
  t5 := Tryd.underlying5,
  a5 := Tryd.isAgg5,
  z5 := Tryd.sizeOf5,
  v5 := Tryd.zeroValue5,
  t9 := Tryd.underlying9,
  a9 := Tryd.isAgg9,
  z9 := Tryd.sizeOf9,
  v9 := Tryd.zeroValue9,
  t46 := Tryd.underlying111,
  a46 := Tryd.isAgg111,
  z46 := Tryd.sizeOf111,
  v46 := Tryd.zeroValue111,
  t51 := Tryd.underlying134,
  a51 := Tryd.isAgg134,
  z51 := Tryd.sizeOf134,
  v51 := Tryd.zeroValue134,
  t59 := Tryd.underlying116,
  a59 := Tryd.isAgg116,
  z59 := Tryd.sizeOf116,
  v59 := Tryd.zeroValue116,
  t146 := Tryd.underlying135,
  a146 := Tryd.isAgg135,
  z146 := Tryd.sizeOf135,
  v146 := Tryd.zeroValue135,
  g1 := by kernel_rfl }
def layIndexByte_ren : Go.Shelf.Ren := ⟨fun | 137 => 100 | 217 => 108 | 266 => 113 | n => n, fun | 9 => 9 | 5 => 5 | 3 => 3 | n => n, fun | n => n⟩
set_option maxRecDepth 100000 in
theorem layIndexByte : Go.Proofs.Lays.n137 Tryd.prog layIndexByte_ren := {
  mixed := by kernel_rfl,
  f137 := Tryd.func100.trans (congrArg some (by kernel_rfl)),
  f217 := Tryd.func108.trans (congrArg some (by kernel_rfl)),
  f266 := Tryd.func113.trans (congrArg some (by kernel_rfl)),
  t3 := Tryd.underlying3,
  a3 := Tryd.isAgg3,
  z3 := Tryd.sizeOf3,
  v3 := Tryd.zeroValue3,
  t5 := Tryd.underlying5,
  a5 := Tryd.isAgg5,
  z5 := Tryd.sizeOf5,
  v5 := Tryd.zeroValue5,
  t9 := Tryd.underlying9,
  a9 := Tryd.isAgg9,
  z9 := Tryd.sizeOf9,
  v9 := Tryd.zeroValue9 }
def layLastIdx_ren : Go.Shelf.Ren := ⟨fun | 149 => 76 | 222 => 90 | n => n, fun | 9 => 9 | 5 => 5 | 3 => 3 | 4 => 4 | n => n, fun | n => n⟩
set_option maxRecDepth 100000 in
theorem layLastIdx : Go.Proofs.Lays.n149 Tryd.prog layLastIdx_ren := {
  mixed := by kernel_rfl,
  f149 := Tryd.func76.trans (congrArg some (by kernel_rfl)),
  f222 := Tryd.func90.trans (congrArg some (by kernel_rfl)),
  t3 := Tryd.underlying3,
  a3 := Tryd.isAgg3,
  z3 := Tryd.sizeOf3,
  v3 := Tryd.zeroValue3,
  t4 := Tryd.underlying4,
  a4 := Tryd.isAgg4,
  z4 := Tryd.sizeOf4,
  v4 := Tryd.zeroValue4,
  t5 := Tryd.underlying5,
  a5 := Tryd.isAgg5,
  z5 := Tryd.sizeOf5,
  v5 := Tryd.zeroValue5,
  t9 := Tryd.underlying9,
  a9 := Tryd.isAgg9,
  z9 := Tryd.sizeOf9,
  v9 := Tryd.zeroValue9 }
def layIntCmp_ren : Go.Shelf.Ren := ⟨fun | 5 => 82 | 7 => 94 | n => n, fun | 22 => 3 | 3 => 3 | 4 => 4 | n => n, fun | n => n⟩
set_option maxRecDepth 100000 in
theorem layIntCmp : Go.Proofs.SlLaysC2.n5 Tryd.prog layIntCmp_ren := {
  mixed := by kernel_rfl,
  f5 := ⟨Tryd.f82.name, by decide, Tryd.func82.trans (congrArg some (by kernel_rfl))⟩,
  f7 := ⟨Tryd.f94.name, by decide, Tryd.func94.trans (congrArg some (by kernel_rfl))⟩,
  t3 := Tryd.underlying3,
  a3 := Tryd.isAgg3,
  z3 := Tryd.sizeOf3,
  v3 := Tryd.zeroValue3,
  t4 := Tryd.underlying4,
  a4 := Tryd.isAgg4,
  z4 := Tryd.sizeOf4,
  v4 := Tryd.zeroValue4,
  t22 := Tryd.underlying3,
  a22 := Tryd.isAgg3,
  z22 := Tryd.sizeOf3,
  v22 := Tryd.zeroValue3 }
end Go.Proofs.YtjllbkeobibnkaaDoor.Q

namespace Go.Proofs.YtjllbkeobibnkaaDoor.Q
open Go Go.Proofs Go.Shelf Go.RowKit Go.Lib Go.Sort Go.Proofs.YtjllbkeobibnkaaDoorP Go.Proofs.YtjllbkeobibnkaaDoorK Go.Proofs.YtjllbkeobibnkaaDoorW.PrintWords Go.Proofs.YtjllbkeobibnkaaDoorW.PrintLast Go.Proofs.YtjllbkeobibnkaaDoorW.PrintMore
set_option linter.unusedSimpArgs false
set_option linter.unusedVariables false
theorem split_c (W : World) (s : ByteArray) (hs : s.size < 4294967281) : Calls Tryd.prog 71 #[.string s, .string ⟨#[47]⟩] W fun e w' => ∃ l : List ByteArray, Aside0 (l.map (·.data.toList) = names s.data.toList) ∧ l.length ≤ 4294967281 ∧ e = .returned (.slice (some ⟨W.heap.size, 0, none⟩) l.length l.length) ∧ w' = W.alloc (.cells (l.map Value.string).toArray 9) := by
  have h := split_one laySplit (by kernel_rfl) s 47 W hs
  have hl := Lib.splitB_all ⟨#[47]⟩ (Nat.le_refl 1) 0 _ s rfl
  have hn : (Lib.splitB ⟨#[47]⟩ 0 (Lib.countB s ⟨#[47]⟩) s).map (·.data.toList) = names s.data.toList := by
    rw [Lib.splitB_data]
    exact split_names s.data.toList
  refine Calls.mono h ?_
  rintro e w' ⟨rfl, rfl⟩
  have hc := Lib.countB_le ⟨#[47]⟩ (Nat.le_refl 1) s.size s (Nat.le_refl _)
  exact ⟨_, ⟨hn⟩, by rw [hl]; omega, by rw [hl], rfl⟩
attribute [local go_sem] cell_held frozen_held
theorem idx_c (W : World) (c : UInt8) : Calls Tryd.prog 100 #[.string ⟨#[97, 98, 99, 100, 101, 102, 103, 104, 105, 106, 107, 108, 109, 110, 111, 112, 113, 114, 115, 116, 117, 118, 119, 120, 121, 122, 48, 49, 50, 51, 52, 53, 54, 55, 56, 57, 95, 45, 126]⟩, .int .u8 (c.toNat : Int)] W fun e w' => e = .returned (.int .i64 (indexByte signsL c)) ∧ w' = W := by
  have h := Any.strings_IndexByte layIndexByte ⟨#[97, 98, 99, 100, 101, 102, 103, 104, 105, 106, 107, 108, 109, 110, 111, 112, 113, 114, 115, 116, 117, 118, 119, 120, 121, 122, 48, 49, 50, 51, 52, 53, 54, 55, 56, 57, 95, 45, 126]⟩ (c.toNat : Int) W
  have e : ((c.toNat : Int).toNat.toUInt8) = c := by simp
  rw [e] at h
  exact h
set_option maxRecDepth 100000 in
set_option maxHeartbeats 1000000 in
theorem plain_any (w : World) (s : ByteArray) (hs : s.size ≤ 65536) : Calls Tryd.prog 88 #[.string s] w fun e w' => e = .returned (.bool (plainL s.data.toList)) ∧ ∃ q, w' = w.drewN q := by
  obtain ⟨r, hr⟩ : ∃ r, plainL s.data.toList = r := ⟨_, rfl⟩
  have HR := Aside0.mk hr
  have HL : s.data.toList.length = s.size := by simp
  have HL := Aside0.mk HL
  rw [hr]
  clear hr
  go_enter Tryd.func88, Tryd.ntmps88
  go_wp2_with fail
  go_loopw [6] (fun i wr => ∃ k q : Nat, k ≤ s.size ∧ i = .int .i64 (k : Int) ∧ Aside0 ((s.data.toList.take k).all signB = true) ∧ Aside0 (wr = w.drewN q)) (fun i _ => s.size - (RowKit.intOf i).toNat)
  case atStart => exact ⟨0, 0, Nat.zero_le _, rfl, ⟨rfl⟩, ⟨rfl⟩⟩
  case round =>
    obtain ⟨k, q, hk, rfl, HA, HW⟩ := hrel
    have hw := HW.out
    subst hw
    clear HW
    by_cases hlt : k < s.size
    · have hsig := signs_index s[k]
      have hic := fun W => idx_c W s[k]
      have htk : Aside0 ((s.data.toList.take (k + 1)).all signB = signB s[k]) := ⟨by
        rw [List.take_succ_eq_append_getElem (by rw [HL.out]; exact hlt), List.all_append, HA.out]
        show (true && List.all [s[k]] signB) = _
        simp⟩
      cases hb : signB s[k] with
      | true =>
        rw [hb] at hsig htk
        have hz := of_decide_eq_false (show decide (indexByte signsL s[k] < 0) = false from hsig)
        generalize indexByte signsL s[k] = z at hic hz
        have HIC := Aside0.mk hic
        clear hic hsig hb
        go_wp2_with fail
        refine (HIC.out _).mono ?_
        rintro e w1 ⟨rfl, rfl⟩
        go_wp2_with fail
        go_roundw
        case rel => exact ⟨k + 1, _, by omega, by go_num, htk, ⟨rfl⟩⟩
        case measure => simp [RowKit.intOf]; omega
      | false =>
        rw [hb] at hsig htk
        have hz := of_decide_eq_true (show decide (indexByte signsL s[k] < 0) = true from hsig)
        generalize indexByte signsL s[k] = z at hic hz
        have HIC := Aside0.mk hic
        clear hic hsig hb
        go_wp2_with fail
        refine (HIC.out _).mono ?_
        rintro e w1 ⟨rfl, rfl⟩
        go_wp2_with fail
        go_ret
        refine ⟨?_, _, rfl⟩
        have h1 : s.data.toList.all signB = false := by
          rw [← List.take_append_drop (k + 1) s.data.toList, List.all_append, htk.out, Bool.false_and]
        have h2 : r = false := by rw [← HR.out]; unfold plainL; rw [h1]; rfl
        rw [h2]
        rfl
    · obtain rfl : k = s.size := by omega
      have h1 := HA.out
      rw [List.take_of_length_le (by rw [HL.out]; exact Nat.le_refl _)] at h1
      have hr2 := HR.out
      unfold plainL at hr2
      rw [h1, Bool.true_and] at hr2
      have HR2 := Aside0.mk hr2
      clear h1 hr2
      go_wp2_with fail
      go_ret
      refine ⟨?_, _, rfl⟩
      rw [← HR2.out]
      show Ending.returned _ = _
      simp [ByteArray.toList_eq]
theorem cut_len (l m : List UInt8) : (cut l m).1.length ≤ l.length ∧ (cut l m).2.1.length ≤ l.length := by
  unfold cut
  split
  · exact ⟨by rw [List.length_take]; omega, by rw [List.length_drop]; omega⟩
  · exact ⟨Nat.le_refl _, Nat.zero_le _⟩
theorem bsize (l : List UInt8) : (⟨l.toArray⟩ : ByteArray).size = l.length := rfl
set_option maxRecDepth 100000 in
set_option maxHeartbeats 1000000 in
theorem kind_any (w : World) (s : ByteArray) (hs : s.size ≤ 65536) : Calls Tryd.prog 72 #[.string s] w fun e w' => e = .returned (.int .i64 (kindL s.data.toList)) ∧ ∃ q, w' = w.drewN q := by
  have hcut := fun W => cut_one layCut s 46 W (by omega)
  have hcl := cut_len s.data.toList [46]
  have hsl : s.data.toList.length = s.size := by simp
  obtain ⟨r, hr⟩ : ∃ r, kindL s.data.toList = r := ⟨_, rfl⟩
  rw [hr]
  unfold kindL at hr
  rw [hsl] at hr hcl
  obtain ⟨a, b, d, hc⟩ : ∃ a b d, cut s.data.toList [46] = (a, b, d) := ⟨_, _, _, rfl⟩
  rw [hc] at hr hcl
  simp only [hc] at hcut
  dsimp only at hr hcl hcut
  have hpa := fun W => plain_any W ⟨a.toArray⟩ (by rw [bsize]; omega)
  have hpb := fun W => plain_any W ⟨b.toArray⟩ (by rw [bsize]; omega)
  have ea : (⟨a.toArray⟩ : ByteArray).data.toList = a := rfl
  have eb : (⟨b.toArray⟩ : ByteArray).data.toList = b := rfl
  rw [ea] at hpa
  rw [eb] at hpb
  change ∀ W, Calls Tryd.prog 87 _ W _ at hcut
  have HC := Aside0.mk hcut
  have HPA := Aside0.mk hpa
  have HPB := Aside0.mk hpb
  clear hcut hpa hpb hc hcl ea eb hsl
  by_cases h24 : 24 < s.size
  · rw [if_pos h24] at hr
    subst hr
    have hd : decide (24 < (s.size : Int)) = true := decide_eq_true (by omega)
    clear h24
    go_enter Tryd.func72, Tryd.ntmps72
    go_wp2_with fail
    refine (HC.out _).mono ?_
    rintro e w1 ⟨rfl, n1, rfl⟩
    go_wp2_with fail
    go_ret
    exact ⟨rfl, _, rfl⟩
  · rw [if_neg h24] at hr
    have hd : decide (24 < (s.size : Int)) = false := decide_eq_false (by omega)
    clear h24
    cases hpl : plainL a with
    | false =>
      rw [if_pos hpl] at hr
      have HPA := HPA.out
      rw [hpl] at HPA
      have HPA := Aside0.mk HPA
      clear hpl
      subst hr
      go_enter Tryd.func72, Tryd.ntmps72
      go_wp2_with fail
      refine (HC.out _).mono ?_
      rintro e w1 ⟨rfl, n1, rfl⟩
      go_wp2_with fail
      refine (HPA.out _).mono ?_
      rintro e w1 ⟨rfl, n2, rfl⟩
      go_wp2_with fail
      go_ret
      exact ⟨rfl, _, rfl⟩
    | true =>
      rw [if_neg (by rw [hpl]; decide)] at hr
      have HPA := HPA.out
      rw [hpl] at HPA
      have HPA := Aside0.mk HPA
      clear hpl
      cases d with
      | false =>
        rw [if_pos rfl] at hr
        subst hr
        go_enter Tryd.func72, Tryd.ntmps72
        go_wp2_with fail
        refine (HC.out _).mono ?_
        rintro e w1 ⟨rfl, n1, rfl⟩
        go_wp2_with fail
        refine (HPA.out _).mono ?_
        rintro e w1 ⟨rfl, n2, rfl⟩
        go_wp2_with fail
        go_ret
        exact ⟨rfl, _, rfl⟩
      | true =>
        rw [if_neg (by decide)] at hr
        cases hpl2 : plainL b with
        | true =>
          rw [if_pos hpl2] at hr
          subst hr
          have HPB := HPB.out
          rw [hpl2] at HPB
          have HPB := Aside0.mk HPB
          clear hpl2
          go_enter Tryd.func72, Tryd.ntmps72
          go_wp2_with fail
          refine (HC.out _).mono ?_
          rintro e w1 ⟨rfl, n1, rfl⟩
          go_wp2_with fail
          refine (HPA.out _).mono ?_
          rintro e w1 ⟨rfl, n2, rfl⟩
          go_wp2_with fail
          refine (HPB.out _).mono ?_
          rintro e w1 ⟨rfl, n3, rfl⟩
          go_wp2_with fail
          go_ret
          exact ⟨rfl, _, rfl⟩
        | false =>
          rw [if_neg (by rw [hpl2]; decide)] at hr
          subst hr
          have HPB := HPB.out
          rw [hpl2] at HPB
          have HPB := Aside0.mk HPB
          clear hpl2
          go_enter Tryd.func72, Tryd.ntmps72
          go_wp2_with fail
          refine (HC.out _).mono ?_
          rintro e w1 ⟨rfl, n1, rfl⟩
          go_wp2_with fail
          refine (HPA.out _).mono ?_
          rintro e w1 ⟨rfl, n2, rfl⟩
          go_wp2_with fail
          refine (HPB.out _).mono ?_
          rintro e w1 ⟨rfl, n3, rfl⟩
          go_wp2_with fail
          go_ret
          exact ⟨rfl, _, rfl⟩
theorem names_size (l : List UInt8) : ∀ n ∈ names l, n.length ≤ l.length := by
  induction l with
  | nil => intro n hn; simp [names] at hn; simp [hn]
  | cons c l ih =>
    intro n hn
    unfold names at hn
    split at hn
    · rcases List.mem_cons.1 hn with e | hn
      · rw [e]; exact Nat.zero_le _
      · exact Nat.le_succ_of_le (ih n hn)
    · split at hn
      · rename_i he
        exact absurd he (names_ne l)
      · rename_i m ms he
        rcases List.mem_cons.1 hn with e | hn
        · rw [e, List.length_cons, List.length_cons]
          exact Nat.succ_le_succ (ih m (by rw [he]; exact List.mem_cons_self))
        · exact Nat.le_succ_of_le (ih n (by rw [he]; exact List.mem_cons_of_mem _ hn))
theorem size_zero_list (p : ByteArray) : p.toList = [] ↔ p.size = 0 := by
  rw [ByteArray.toList_eq]
  exact ⟨fun h => by have : p.data.toList.length = 0 := by rw [h]; rfl
                     simpa using this, fun h => List.eq_nil_of_length_eq_zero (by simpa using h)⟩
set_option maxRecDepth 100000 in
set_option maxHeartbeats 2000000 in
theorem Kind_any (w : World) (p : ByteArray) (hp : p.size ≤ 65536) : Calls Tryd.prog 47 #[.string p] w fun e w' => e = .returned (.tuple #[.int .i64 (kindS p).1, .int .i64 (kindS p).2]) ∧ Below w.heap.size w w' := by
  obtain ⟨r1, r2, hr⟩ : ∃ a b, kindS p = (a, b) := ⟨_, _, rfl⟩
  rw [hr]
  unfold kindS at hr
  dsimp only
  by_cases h96 : 96 < p.size
  · rw [if_pos h96] at hr
    cases hr
    have hd : decide (96 < (p.size : Int)) = true := decide_eq_true (by omega)
    clear h96
    go_enter Tryd.func47, Tryd.ntmps47
    go_wp2_with fail
    go_ret2
    exact ⟨rfl, bel _ _⟩
  · rw [if_neg h96] at hr
    have hd : decide (96 < (p.size : Int)) = false := decide_eq_false (by omega)
    clear h96
    by_cases h0 : p.size = 0
    · rw [if_pos h0] at hr
      cases hr
      have hz := (size_zero_list p).2 h0
      have hz1 : (p.toList == []) = true := by rw [hz]; rfl
      clear h0 hz
      go_enter Tryd.func47, Tryd.ntmps47
      go_wp2_with fail
      go_ret2
      exact ⟨rfl, bel _ _⟩
    · rw [if_neg h0] at hr
      have hz1 : (p.toList == []) = false := beq_eq_false_iff_ne.mpr (fun e => h0 ((size_zero_list p).1 e))
      have hs := fun W => split_c W p (by omega)
      have hns := names_size p.data.toList
      have hpl : p.data.toList.length = p.size := by simp
      rw [hpl] at hns
      have HS := Aside0.mk hs
      have HR := Aside0.mk hr
      have HN := Aside0.mk hns
      have HP := Aside0.mk hp
      clear h0 hs hr hns hpl hp
      go_enter Tryd.func47, Tryd.ntmps47
      go_wp2_with fail
      refine (HS.out _).mono ?_
      rintro e w1 ⟨l, hl, nl, rfl, rfl⟩
      have HK : ∀ x ∈ l, x.size ≤ 65536 := fun x hx => by
        have h1 := HN.out x.data.toList (by rw [← hl.out]; exact List.mem_map_of_mem hx)
        have h2 := HP.out
        have h3 : x.data.toList.length = x.size := by simp
        omega
      have HK := Aside0.mk HK
      have hr := HR.out
      rw [← hl.out, List.length_map] at hr
      have HR := Aside0.mk hr
      clear hl hr
      go_wp2_with fail
      go_loopw [5, 19] (fun s i wr => ∃ (k q : Nat) (last : Int), k ≤ l.length ∧ s = .int .i64 last ∧ i = .int .i64 (k : Int) ∧ Aside0 (kindsL ((l.drop k).map (·.data.toList)) last = kindsL (l.map (·.data.toList)) 0) ∧ Aside0 (wr = (w.alloc (.cells (l.map Value.string).toArray 9)).drewN q)) (fun _ i _ => l.length - (RowKit.intOf i).toNat)
      case atStart => exact ⟨0, 0, 0, Nat.zero_le _, rfl, rfl, ⟨rfl⟩, ⟨rfl⟩⟩
      case round =>
        obtain ⟨k, q, last, hk, rfl, rfl, HA, HW⟩ := hrel
        have hw := HW.out
        subst hw
        clear HW
        by_cases hlt : k < l.length
        · have hA := HA.out
          rw [List.drop_eq_getElem_cons hlt, List.map_cons, kindsL] at hA
          have hki := fun W => kind_any W l[k] (HK.out _ (List.getElem_mem hlt))
          have hcs := kindL_cases l[k].data.toList
          generalize kindL l[k].data.toList = kk at hA hki hcs
          have HKI := Aside0.mk hki
          clear hki HA
          rcases hcs with rfl | rfl | rfl
          · rw [if_pos rfl] at hA
            have hR := HR.out
            rw [← hA] at hR
            cases hR
            clear hA
            go_wp2_with fail
            refine (HKI.out _).mono ?_
            rintro e w1 ⟨rfl, n1, rfl⟩
            go_wp2_with fail
            go_ret2
            exact ⟨rfl, bel _ _⟩
          · rw [if_neg (by decide), if_neg (fun h => absurd h.1 (by decide))] at hA
            have HA := Aside0.mk hA
            clear hA
            go_wp2_with fail
            refine (HKI.out _).mono ?_
            rintro e w1 ⟨rfl, n1, rfl⟩
            go_wp2_with fail
            go_roundw
            case rel => exact ⟨k + 1, _, 1, by omega, rfl, by go_num, HA, ⟨rfl⟩⟩
            case measure => simp [RowKit.intOf]; omega
          · rw [if_neg (by decide)] at hA
            by_cases hlast : k + 1 < l.length
            · rw [if_pos ⟨rfl, by simp; omega⟩] at hA
              have hR := HR.out
              rw [← hA] at hR
              cases hR
              clear hA
              have hd2 : decide ((k : Int) < (l.length : Int) - 1) = true := decide_eq_true (by omega)
              go_wp2_with fail
              refine (HKI.out _).mono ?_
              rintro e w1 ⟨rfl, n1, rfl⟩
              go_wp2_with fail
              go_ret2
              exact ⟨rfl, bel _ _⟩
            · rw [if_neg (by simp; omega)] at hA
              have HA := Aside0.mk hA
              clear hA
              have hd2 : decide ((k : Int) < (l.length : Int) - 1) = false := decide_eq_false (by omega)
              go_wp2_with fail
              refine (HKI.out _).mono ?_
              rintro e w1 ⟨rfl, n1, rfl⟩
              go_wp2_with fail
              go_roundw
              case rel => exact ⟨k + 1, _, 2, by omega, rfl, by go_num, HA, ⟨rfl⟩⟩
              case measure => simp [RowKit.intOf]; omega
        · have hA := HA.out
          rw [List.drop_of_length_le (by omega)] at hA
          have hR := HR.out
          rw [← hA] at hR
          simp only [List.map_nil, kindsL] at hR
          clear hA HA HR
          by_cases h8 : 8 < l.length
          · rw [if_pos h8] at hR
            cases hR
            have hd2 : decide (8 < (l.length : Int)) = true := decide_eq_true (by omega)
            go_wp2_with fail
            go_ret2
            exact ⟨rfl, bel _ _⟩
          · rw [if_neg h8] at hR
            cases hR
            have hd2 : decide (8 < (l.length : Int)) = false := decide_eq_false (by omega)
            go_wp2_with fail
            go_ret2
            exact ⟨rfl, bel _ _⟩
/-- Is a text a path? -/
def isP (p : ByteArray) : Bool := (kindS p).2 == 0
set_option maxHeartbeats 1000000 in
theorem is_any (w : World) (p : ByteArray) (hp : p.size ≤ 65536) : Calls Tryd.prog 75 #[.string p, .int .i64 0] w fun e w' => e = .returned (.bool (isP p)) ∧ Below w.heap.size w w' := by
  have hk := fun W => Kind_any W p hp
  unfold isP
  generalize kindS p = r at hk
  obtain ⟨a, b⟩ := r
  dsimp only at hk ⊢
  by_cases h0 : b = 0
  · subst h0
    have HK := Aside0.mk hk
    clear hk
    go_enter Tryd.func75, Tryd.ntmps75
    go_wp2_with fail
    refine (HK.out _).mono ?_
    rintro e w1 ⟨rfl, hb⟩
    go_wp2_with fail
    go_ret
    exact ⟨rfl, hb⟩
  · have h1 : (b == 0) = false := beq_eq_false_iff_ne.mpr h0
    rw [h1]
    have HK := Aside0.mk hk
    clear hk h0
    go_enter Tryd.func75, Tryd.ntmps75
    go_wp2_with fail
    refine (HK.out _).mono ?_
    rintro e w1 ⟨rfl, hb⟩
    go_wp2_with fail
    go_ret
    exact ⟨rfl, hb⟩
def path_Kind.f (p : ByteArray) : Option (Int × Int) := if p.size ≤ 65536 then some (kindS p) else none
theorem path_Kind.calls (a0 : ByteArray) (r1 : Int) (r2 : Int) (w : World) (h : path_Kind.f a0 = some (r1, r2)) :
    Calls Tryd.prog 47 #[.string a0] w fun e w' => e = .returned (.tuple #[.int .i64 r1, .int .i64 r2]) ∧ Below w.heap.size w w' := by
  unfold path_Kind.f at h
  split at h
  · rename_i hs
    injection h with h
    have k := Kind_any w a0 hs
    rw [h] at k
    exact k
  · simp at h
attribute [local go_sem] max2_int max_two
/-- The text ahead of the last / (of a text that has none: nothing). -/
def parB (p : ByteArray) : ByteArray := p.extract 0 (max (lastIndexByte p 47) 0).toNat
def parS (p : ByteArray) : ByteArray × Bool := if p.size = 0 ∨ isP p = false then (⟨#[]⟩, false) else (parB p, true)
theorem last_le (p : ByteArray) : -1 ≤ lastIndexByte p 47 ∧ lastIndexByte p 47 ≤ (p.size : Int) := by
  unfold lastIndexByte
  rcases lastIdx_spec p 47 p.size with ⟨e, _⟩ | ⟨i, hi, e, _, _⟩
  · rw [e]; omega
  · rw [e]; omega
set_option maxHeartbeats 1000000 in
theorem Parent_any (w : World) (p : ByteArray) (hp : p.size ≤ 65536) : Calls Tryd.prog 102 #[.string p] w fun e w' => e = .returned (.tuple #[.string (parS p).1, .bool (parS p).2]) ∧ Below w.heap.size w w' := by
  unfold parS
  have his := fun W => is_any W p hp
  have hle := last_le p
  have hli := fun W => Any.strings_LastIndexByte layLastIdx p 47 (by omega) W
  change ∀ W, Calls Tryd.prog 76 _ W _ at hli
  by_cases h0 : p.size = 0
  · rw [if_pos (.inl h0)]
    have hz := (size_zero_list p).2 h0
    have hz1 : (p.toList == []) = true := by rw [hz]; rfl
    clear h0 hz his hli
    go_enter Tryd.func102, Tryd.ntmps102
    go_wp2_with fail
    go_ret2
    exact ⟨rfl, bel _ _⟩
  · have hz1 : (p.toList == []) = false := beq_eq_false_iff_ne.mpr (fun e => h0 ((size_zero_list p).1 e))
    cases hb : isP p with
    | false =>
      rw [if_pos (.inr rfl)]
      rw [hb] at his
      have HI := Aside0.mk his
      clear his hli hb h0
      go_enter Tryd.func102, Tryd.ntmps102
      go_wp2_with fail
      refine (HI.out _).mono ?_
      rintro e w1 ⟨rfl, hb⟩
      go_wp2_with fail
      go_ret2
      exact ⟨rfl, hb⟩
    | true =>
      rw [if_neg (fun h => h.elim h0 (fun e => by cases e))]
      rw [hb] at his
      unfold parB
      generalize lastIndexByte p 47 = z at hle hli
      have HI := Aside0.mk his
      have HL := Aside0.mk hli
      have hle1 := hle.1
      have hle2 := hle.2
      clear his hli hb h0 hle
      by_cases hz : z < 0
      · rw [show max z 0 = 0 by omega, show p.extract 0 (Int.toNat 0) = ByteArray.empty by simp]
        have hp0 : (0 : Int) ≤ p.size := by omega
        go_enter Tryd.func102, Tryd.ntmps102
        go_wp2_with fail
        refine (HI.out _).mono ?_
        rintro e w1 ⟨rfl, hb⟩
        go_wp2_with fail
        refine (HL.out _).mono ?_
        rintro e w2 ⟨rfl, rfl⟩
        go_wp2_with fail
        go_ret2
        exact ⟨rfl, hb⟩
      · rw [show max z 0 = z by omega]
        have hz' : 0 ≤ z := by omega
        go_enter Tryd.func102, Tryd.ntmps102
        go_wp2_with fail
        refine (HI.out _).mono ?_
        rintro e w1 ⟨rfl, hb⟩
        go_wp2_with fail
        refine (HL.out _).mono ?_
        rintro e w2 ⟨rfl, rfl⟩
        go_wp2_with fail
        go_ret2
        exact ⟨rfl, hb⟩
end Go.Proofs.YtjllbkeobibnkaaDoor.Q

namespace Go.Proofs.YtjllbkeobibnkaaDoor.Q
open Go Go.Proofs Go.Shelf Go.RowKit Go.Lib Go.Sort Go.Proofs.YtjllbkeobibnkaaDoorP Go.Proofs.YtjllbkeobibnkaaDoorK Go.Proofs.YtjllbkeobibnkaaDoorW.PrintWords Go.Proofs.YtjllbkeobibnkaaDoorW.PrintLast Go.Proofs.YtjllbkeobibnkaaDoorW.PrintMore
attribute [local go_sem] Oper.semAt_some
set_option linter.unusedSimpArgs false
set_option linter.unusedVariables false
def upsN : Nat → ByteArray → List ByteArray
  | 0, _ => []
  | n + 1, p => if (parS p).2 = true then (parS p).1 :: upsN n (parS p).1 else []
/-- All directories that a path lies in. -/
def ups (p : ByteArray) : List ByteArray := upsN (p.size + 1) p
theorem parS_size {p : ByteArray} (h : (parS p).2 = true) : (parS p).1.size < p.size := by
  unfold parS at h ⊢
  split at h
  · cases h
  · rename_i hc
    rw [if_neg hc]
    have h0 : p.size ≠ 0 := fun e => hc (.inl e)
    have hl := last_le p
    show (parB p).size < p.size
    unfold parB
    rw [ByteArray.size_extract]
    unfold lastIndexByte
    rcases lastIdx_spec p 47 p.size with ⟨e, _⟩ | ⟨i, hi, e, _, _⟩
    · rw [e]; omega
    · rw [e]; omega
theorem upsN_more (n : Nat) : ∀ (m : Nat) (p : ByteArray), p.size < n → p.size < m → upsN n p = upsN m p := by
  induction n with
  | zero => intro m p h; omega
  | succ n ih =>
    intro m p h1 h2
    cases m with
    | zero => omega
    | succ m =>
      unfold upsN
      split
      · rename_i h
        have := parS_size h
        rw [ih m (parS p).1 (by omega) (by omega)]
      · rfl
theorem ups_eq (p : ByteArray) : ups p = if (parS p).2 = true then (parS p).1 :: ups (parS p).1 else [] := by
  unfold ups
  rw [upsN]
  split
  · rename_i h
    have := parS_size h
    rw [upsN_more p.size ((parS p).1.size + 1) _ this (by omega)]
  · rfl
/-- What is still to be told, behind (up, ok). -/
def restU (up : ByteArray) (ok : Bool) : List ByteArray := if ok = true then up :: ups up else []
theorem ups_rest (p : ByteArray) : ups p = restU (parS p).1 (parS p).2 := ups_eq p
def szOf : Value → Nat
  | .string s => s.size
  | _ => 0
def okOf : Value → Nat
  | .bool true => 1
  | _ => 0
theorem ups_in (F : Fence) (n : Nat) (hf : F.fn 89) (hro : F.round = none) (p : ByteArray) (w : World) :
    CallsIn F n Tryd.prog 89 #[.string p] w fun e w' => e = .returned (.func (.func 101) #[] #[.pointer (some ⟨w.heap.size, 0, none⟩)]) ∧ w' = w.alloc (.cells #[.string p] 9) := by
  refine callsIn_of_wp Tryd.func89 rfl hf ?_ hro
  simp only [Tryd.ntmps89, List.size_toArray, List.length_cons, List.length_nil, Nat.reduceAdd, Nat.reduceSub, Array.replicate_succ, Array.replicate_zero, List.push_toArray, List.append_toArray, List.nil_append, List.cons_append]
  gi_wp2
  go_ret
  exact ⟨rfl, rfl⟩
set_option maxRecDepth 100000 in
set_option maxHeartbeats 4000000 in
theorem ups1_in (n : Nat) (hn : 1 ≤ n) (l B : Nat) (p : ByteArray) (hp : p.size ≤ 65536) (J Jx : List ByteArray → World → Prop)
    (hY : ∀ pre x W, J pre W → pre.length < (ups p).length → YieldAt Fence.wide (n - 1) Tryd.prog l #[.string x] W fun e W' =>
      (e = .returned (.bool true) ∧ J (pre ++ [x]) W' ∧ True) ∨ (e = .returned (.bool false) ∧ Jx (pre ++ [x]) W'))
    (W : World) (b1 : Boxed W B 9 (.string p)) (hJ : AbidesFrom W.heap.size J) (h0 : J [] W) :
    CallsIn Fence.wide n Tryd.prog 101 #[.func (.yield l) #[] #[], .pointer (some ⟨B, 0, none⟩)] W fun e W' => (∃ v, e = .returned v) ∧
      ((∃ ys, ys = ups p ∧ J ys W') ∨ (∃ pre, pre <+: ups p ∧ Jx pre W')) := by
  have c1 := b1.cell
  have hja : ∀ s X Y, J s X → Below X.heap.size X Y → J s Y := fun s X Y h hb => hJ s X Y none h ⟨hb.os, hb.tape, hb.output, hb.size, fun k hk _ => hb.block k hk⟩ (fun r e => by cases e)
  have HJA := Aside0.mk hja
  have HY := Aside0.mk hY
  clear hja hJ hY
  have hpar := fun W q (hq : q.size ≤ 65536) => (callsIn_wide (n := n - 1)).2 (Parent_any W q hq)
  have HPAR := Aside0.mk hpar
  have HP := Aside0.mk hp
  clear hpar hp
  refine callsIn_of_wp Tryd.func101 rfl trivial ?_ rfl
  simp only [Tryd.ntmps101, List.size_toArray, List.length_cons, List.length_nil, Nat.reduceAdd, Nat.reduceSub, Array.replicate_succ, Array.replicate_zero, List.push_toArray, List.append_toArray, List.nil_append, List.cons_append]
  gi_wp2_with fail
  refine ⟨trivial, (HPAR.out _ _ HP.out).mono ?_⟩
  rintro e W1 ⟨rfl, hb1⟩
  have h1 := HJA.out _ _ _ h0 hb1
  clear h0
  have hsz : (parS p).2 = true → (parS p).1.size ≤ 65536 := fun h => by have := parS_size h; have := HP.out; omega
  have HU := Aside0.mk (ups_rest p)
  generalize parS p = r at HU hsz
  obtain ⟨up, ok⟩ := r
  dsimp only at HU hsz
  have HSZ := Aside0.mk hsz
  clear hsz hb1 c1
  gi_wp2_with fail
  gi_loopw [3, 4] (fun u o wr => ∃ pre up ok, u = .string up ∧ o = .bool ok ∧ J pre wr ∧ Aside0 (ups p = pre ++ restU up ok) ∧ Aside0 (ok = true → up.size ≤ 65536)) (fun u o _ => okOf o * (szOf u + 1))
  case atStart => exact ⟨[], up, ok, rfl, rfl, h1, HU, HSZ⟩
  case round =>
    clear HU HSZ h1
    obtain ⟨pre, up, ok, rfl, rfl, hJs, HU, HSZ⟩ := hrel
    cases ok with
    | true =>
      have hu := HU.out
      unfold restU at hu
      rw [if_pos rfl] at hu
      have hlen : pre.length < (ups p).length := by rw [hu, List.length_append, List.length_cons]; omega
      obtain ⟨fn, tmps, assign, body, hy, hR⟩ := HY.out _ up _ hJs hlen
      have hpre : pre ++ [up] <+: ups p := ⟨ups up, by rw [hu]; simp⟩
      have HPRE := Aside0.mk hpre
      have hu2 : ups p = (pre ++ [up]) ++ restU (parS up).1 (parS up).2 := by rw [hu, ups_rest up]; simp
      have hsz2 : (parS up).2 = true → (parS up).1.size < up.size := parS_size
      have hups := HSZ.out rfl
      have HPU := Aside0.mk (HPAR.out · up hups)
      generalize parS up = r at hu2 hsz2 HPU
      obtain ⟨up2, ok2⟩ := r
      dsimp only at hu2 hsz2 HPU
      have HU2 := Aside0.mk hu2
      have HZ2 := Aside0.mk hsz2
      have HUP := Aside0.mk hups
      clear hu hu2 HU hlen hpre hsz2 HSZ hups
      gi_wp2_with fail
      refine hR.mono ?_
      rintro e W3 (⟨rfl, hJ3, _⟩ | ⟨rfl, hJx3⟩)
      · gi_wp2_with fail
        refine ⟨trivial, (HPU.out _).mono ?_⟩
        rintro e W4 ⟨rfl, hb4⟩
        have hJ4 := HJA.out _ _ _ hJ3 hb4
        clear hb4
        gi_wp2_with fail
        go_roundw
        case rel => exact ⟨pre ++ [up], up2, ok2, rfl, rfl, hJ4, HU2, ⟨fun h => by have := HZ2.out h; have := HUP.out; omega⟩⟩
        case measure =>
          cases ok2 with
          | true => have := HZ2.out rfl; simp [okOf, szOf]; omega
          | false => simp [okOf, szOf]
      · gi_wp2_with fail
        refine bodyPost_ret (results_none rfl _ _ _) rfl ?_
        exact ⟨⟨_, rfl⟩, .inr ⟨_, HPRE.out, hJx3⟩⟩
    | false =>
      have hu := HU.out
      unfold restU at hu
      rw [if_neg (by decide), List.append_nil] at hu
      have HU := Aside0.mk hu
      clear hu
      gi_wp2_with fail
      go_end0
      exact ⟨⟨_, rfl⟩, .inl ⟨_, rfl, by rw [HU.out]; exact hJs⟩⟩
theorem ups_stops (n : Nat) (hn : 1 ≤ n) (B : Nat) (p : ByteArray) (hp : p.size ≤ 65536) (w1 : World) (b1 : Boxed w1 B 9 (.string p)) :
    SeqStopsK Fence.wide n Tryd.prog 101 #[.pointer (some ⟨B, 0, none⟩)] (fun x : ByteArray => #[.string x]) (fun _ _ => True) (fun ys => ys = ups p) (fun pre => pre <+: ups p) (ups p).length w1 := fun l J Jx W hW hJ hJx hY h0 =>
  ups1_in n hn l B p hp J Jx hY W ((hW.block _ b1.lt).trans b1) hJ h0
/-- Does a path lie in a directory? -/
def belowS (d p : ByteArray) : Bool := (ups p).any fun u => u.toList == d.toList
set_option maxRecDepth 100000 in
set_option maxHeartbeats 4000000 in
theorem below_in (n : Nat) (hn : 5 ≤ n) (d p : ByteArray) (hp : p.size ≤ 65536) (w : World) :
    CallsIn Fence.wide n Tryd.prog 74 #[.string d, .string p] w fun e W' => e = .returned (.bool (belowS d p)) ∧ Below w.heap.size w W' := by
  have h1 : 1 ≤ n := by omega
  have hro : Fence.wide.round = none := rfl
  refine callsIn_of_wp_marks Tryd.func74 rfl trivial ?_ hro
  simp only [Tryd.ntmps74, List.size_toArray, List.length_cons, List.length_nil, Nat.reduceAdd, Nat.reduceSub, Array.replicate_succ, Array.replicate_zero, List.push_toArray, List.append_toArray, List.nil_append, List.cons_append]
  gi_wp2_with fail
  refine ⟨trivial, (ups_in Fence.wide (n - 1) trivial hro _ _).mono ?_⟩
  rintro e w' ⟨rfl, rfl⟩
  gi_wp2_with fail
  obtain ⟨Z, hZ⟩ : ∃ Z, Z = (w.alloc (.cells #[.string d] 9)).alloc (.cells #[.bool false] 4) := ⟨_, rfl⟩
  have bR := (Boxed.new w 9 (.string d)).alloc (.cells #[.bool false] 4)
  have bQ := Boxed.new (w.alloc (.cells #[.string d] 9)) 4 (.bool false)
  have hB0 : Below w.heap.size w Z := by rw [hZ]; exact ((Below.refl _ w).alloc (Nat.le_refl _) _).alloc (by simp) _
  have hsz : Z.heap.size = w.heap.size + 1 + 1 := by rw [hZ]; simp
  rw [World.size_alloc] at bQ
  rw [← hZ] at bR bQ ⊢
  clear hZ
  have b1 := Boxed.new Z 9 (.string p)
  rw [hsz] at b1
  replace hB0 := hB0.alloc (by omega) (.cells #[.string p] 9)
  replace bR := bR.alloc (.cells #[.string p] 9)
  replace bQ := bQ.alloc (.cells #[.string p] 9)
  have hszW : (Z.alloc (.cells #[.string p] 9)).heap.size = w.heap.size + 3 := by simp; omega
  obtain ⟨W0, hW0⟩ : ∃ W0, Z.alloc (.cells #[.string p] 9) = W0 := ⟨_, rfl⟩
  rw [hW0] at b1 bR bQ hB0 hszW ⊢
  clear hW0
  refine wpIn_rangeFunc_ownH hro h1 (gf := 101) (lb := #[.pointer (some ⟨(w.heap.size + 1 + 1), 0, none⟩)]) rfl trivial (enters_of Tryd.func101 (by kernel_rfl) rfl)
    (ups_stops (n - 1) (by omega) (w.heap.size + 1 + 1) p hp W0 b1) (fun _ _ => trivial) (fun _ _ _ _ _ _ _ _ => trivial) (Below.refl _ _) (fun _ => rfl)
    (fun pre W => ((pre.any (fun u => u.toList == d.toList) = false ∧ Boxed W w.heap.size 9 (.string d)) ∧ Boxed W (w.heap.size + 1) 4 (.bool false)) ∧ Below w.heap.size w W)
    (fun c pre W => ((c = .ret ∧ pre.any (fun u => u.toList == d.toList) = true) ∧ Boxed W (w.heap.size + 1) 4 (.bool true)) ∧ Below w.heap.size w W)
    (OwnFrom.and (OwnFrom.and (OwnFrom.and (ownFrom_pure _ _) (Own.from (boxed_own _ _ _) _)) (Own.from (boxed_own _ _ _) _)) (ownFrom_below (Nat.le_refl _) (by omega)))
    (fun c => OwnFrom.and (OwnFrom.and (ownFrom_pure _ _) (Own.from (boxed_own _ _ _) _)) (ownFrom_below (Nat.le_refl _) (by omega)))
    ⟨⟨⟨rfl, bR⟩, bQ⟩, hB0⟩
    (fun x a' W => a' = { tmps := #[.string d, .string p, .pointer (some ⟨w.heap.size, 0, none⟩), undef, .pointer (some ⟨w.heap.size + 1, 0, none⟩), .string x, .string p, .func (.func 101) #[] #[.pointer (some ⟨(w.heap.size + 1 + 1), 0, none⟩)], .string x, undef, undef, undef], defers := [] })
    (fun x a' _ X Y row hs hg hr => hs)
    ?assign ?body ?done ?stop
  case assign =>
    rintro l pre x W K ⟨⟨⟨hpre, bR1⟩, bB1⟩, hB1⟩ hK
    simp only at hK ⊢
    gi_wp2
    exact hK _ _ ((KeepsOthers.refl _).from _) trivial ⟨⟨⟨hpre, bR1⟩, bB1⟩, hB1⟩ rfl
  case body =>
    rintro l pre x a' W hl ⟨r, hr⟩ ⟨⟨⟨hpre, bR1⟩, bB1⟩, hB1⟩ rfl hlt
    have cR := bR1.cell
    have fR := bR1.frozen
    have cB := bB1.cell
    have fB := bB1.frozen
    cases hx : (x.toList == d.toList) with
    | true =>
      have HX : Aside0 ((pre ++ [x]).any (fun u => u.toList == d.toList) = true) := ⟨by simp [hx]⟩
      clear hpre
      gi_wp2
      exact ⟨(KeepsOthers.setCell _ _ _).from _, ⟨⟨by first | rfl | trivial, HX.out⟩, bB1.set _⟩, hB1.setCell (p := ⟨w.heap.size + 1, 0, none⟩) (by simp) _⟩
    | false =>
      have HX : Aside0 ((pre ++ [x]).any (fun u => u.toList == d.toList) = false) := ⟨by rw [List.any_append, hpre]; simp [hx]⟩
      clear hpre
      gi_wp2
      exact ⟨((KeepsOthers.refl _).from _), trivial, ⟨⟨HX.out, bR1⟩, bB1⟩, hB1⟩
  case done =>
    rintro D zs W hD rfl ⟨⟨⟨hp, bR1⟩, bB1⟩, hB1⟩ hK
    have HP := Aside0.mk hp
    clear hp
    have cB := bB1.cell
    have fB := bB1.frozen
    gi_wp2
    have hK' := (KeepsOthers.setCell W ⟨w.heap.size + 1, 0, none⟩ (.bool false)).same D _ hK rfl
    refine ⟨by simp, .inl ⟨_, _, rfl, run_takeDeferred hK', ?_⟩⟩
    have hc5 := cell_kept (bB1.set (.bool false)).cell (grownBy_putObj' _ D (.deferred none)) (fun r e => by cases e; exact ⟨_, hK', rfl⟩)
    refine ⟨.bool false, ?_, by unfold belowS; rw [HP.out], (hB1.setCell (p := ⟨w.heap.size + 1, 0, none⟩) (by simp) _).trans (belowK_b (w := w) (Nat.le_refl _) _ D _ _ (by omega) hK' rfl rfl)⟩
    simp [results, Tryd.f74, go_sem, hc5]
  case stop =>
    rintro D c pre W hD hpre ⟨⟨⟨rfl, hne⟩, bB1⟩, hB1⟩ hK
    have HP := Aside0.mk hne
    clear hne
    gi_wp2
    refine ⟨by simp, .inl ⟨_, _, rfl, run_takeDeferred hK, ?_⟩⟩
    have hc5 := cell_kept bB1.cell (grownBy_putObj' _ D (.deferred none)) (fun r e => by cases e; exact ⟨_, hK, rfl⟩)
    refine ⟨.bool true, ?_, ?_, hB1.trans (belowK_b (w := w) (Nat.le_refl _) W D _ _ (by omega) hK rfl rfl)⟩
    · simp [results, Tryd.f74, go_sem, hc5]
    · obtain ⟨u, hu⟩ := hpre
      unfold belowS
      rw [← hu, List.any_append, HP.out, Bool.true_or]
theorem Below_any (w : World) (d p : ByteArray) (hp : p.size ≤ 65536) :
    Calls Tryd.prog 74 #[.string d, .string p] w fun e w' => e = .returned (.bool (belowS d p)) ∧ Below w.heap.size w w' :=
  callsIn_wide.1 (below_in 5 (Nat.le_refl _) d p hp w)
def path_Below.f (d p : ByteArray) : Option Bool := if p.size ≤ 65536 then some (belowS d p) else none
theorem path_Below.calls (a0 : ByteArray) (a1 : ByteArray) (r : Bool) (w : World) (h : path_Below.f a0 a1 = some r) :
    Calls Tryd.prog 74 #[.string a0, .string a1] w fun e w' => e = .returned (.bool r) ∧ Below w.heap.size w w' := by
  unfold path_Below.f at h
  split at h
  · rename_i hs
    injection h with h
    subst h
    exact Below_any w a0 a1 hs
  · simp at h
end Go.Proofs.YtjllbkeobibnkaaDoor.Q

namespace Go.Proofs.YtjllbkeobibnkaaDoorK
open Go Go.RowKit Go.Proofs.YtjllbkeobibnkaaDoorW.PrintWords Go.Proofs.YtjllbkeobibnkaaDoorW.PrintLast
theorem box_skip {P : Program} {ops : Array Oper} {oi : Oper} {a : Act} {W : World} {K : Act → World → Prop} {Q : Exit → Act → World → Prop} (hw : Region.wanted oi (yielded ops a.tmps) = true) (hN : oi.dst = none) (ty : TypeId) (x y : Operand) (ho : oi.op = .store ty x y)
    {g : Nat} {t : TypeId} {old : Array Value} (hg : W.heap[g]? = some (.cells old t (0, 0))) (cells : Array Value) (hx : a.eval x = .pointer (some ⟨g, 0, none⟩)) (hy : a.eval y = .agg cells)
    (hi : (P.info? ty).map (·.size) = some cells.size) (hold : old.size = cells.size) (h1 : cells.toList.all (·.oneCell') = true)
    (h : ∀ w1, w1.heap[g]? = some (.cells cells t (0, 0)) → W.grownBy w1 (some g) → K a w1) : if Region.wanted oi (yielded ops a.tmps) = true then Oper.wp P oi a W K Q else K (a.put none undef) W := by
  rw [if_pos hw]
  refine wp_store_row ty x y ho g cells hx hy t old hg hi hold (by rw [← Array.all_toList]; exact h1) ?_
  rw [hN]
  exact h _ (setRow_heap W g old cells t (0, 0) hg) (grown_setRow W g cells)
end Go.Proofs.YtjllbkeobibnkaaDoorK

namespace Go.Proofs.YtjllbkeobibnkaaDoor.Q
open Go Go.Proofs Go.Shelf Go.RowKit Go.Lib Go.Sort Go.Proofs.YtjllbkeobibnkaaDoorP Go.Proofs.YtjllbkeobibnkaaDoorK Go.Proofs.YtjllbkeobibnkaaDoorW.PrintWords Go.Proofs.YtjllbkeobibnkaaDoorW.PrintLast Go.Proofs.YtjllbkeobibnkaaDoorW.PrintMore
set_option linter.unusedSimpArgs false
set_option linter.unusedVariables false
theorem strcmp_c (W : World) (a b : ByteArray) : Calls Tryd.prog 81 #[.string a, .string b] W fun e w' => e = .returned (.int .i64 (Lib.compareBytes a.data.toList b.data.toList)) ∧ w' = W := Any.strings_Compare layStrCmp a b W
theorem intcmp_c (W : World) (a b : Int) : Calls Tryd.prog 82 #[.int .i64 a, .int .i64 b] W fun e w' => e = .returned (.int .i64 (Lib.compareInt a b)) ∧ w' = W := AnyG.cmp_Compare_int layIntCmp a b W
theorem min2_mn (k k' : IntKind) (x y : Int) : Builtin.min2 (.int k x) (.int k' y) = pure (.int k (mn x y)) := by
  rw [min2_int]
  unfold mn
  rfl
attribute [local go_sem ↓] Go.Proofs.YtjllbkeobibnkaaDoorK.isSome_setCell
attribute [local go_sem] min2_mn min_two cell_held frozen_held
theorem lex_end {α : Type} (f : α → α → Int) (x y : List α) (k : Nat) (hx : k ≤ x.length) (hy : k ≤ y.length) (h : k = x.length ∨ k = y.length) : lexC f (x.drop k) (y.drop k) = Lib.compareInt x.length y.length := by
  unfold Lib.compareInt
  by_cases h1 : k = x.length
  · rw [List.drop_of_length_le (show x.length ≤ k by omega)]
    by_cases h2 : k = y.length
    · rw [List.drop_of_length_le (show y.length ≤ k by omega), if_neg (by omega), if_neg (by omega)]
      rfl
    · rw [List.drop_eq_getElem_cons (show k < y.length by omega), if_pos (by omega)]
      rfl
  · rw [List.drop_of_length_le (show y.length ≤ k by omega), List.drop_eq_getElem_cons (show k < x.length by omega), if_neg (by omega), if_pos (by omega)]
    rfl
def pcmpR.T5 : Bool × List (List Nat × List Nat) := (true, [([], []), ([], []), ([0, 1], [0, 1]), ([2], [2]), ([], []), ([], []), ([4, 5], [4, 5]), ([6], [6]), ([3, 7], [3, 7]), ([8, 8, 0, 1, 2, 3, 4, 5, 6, 7, 8], [8])])
def pcmpR.B5 : List Nat := [0, 0, 3, 7, 0, 0, 48, 112, 255, 511]
theorem pcmpR.tab5 : rtab .any (opsOf Tryd.f61 5) = pcmpR.T5 := by kernel_rfl
theorem pcmpR.bits5 : waitsOk pcmpR.T5.2 pcmpR.B5 = true := by kernel_rfl
theorem two_grow (W : World) (o1 o2 : Obj) (q : Nat) : ((W.alloc o1).alloc o2).drewN q = grow (W.drewN q) #[o1, o2] := by
  have h : ((W.alloc o1).alloc o2).drewN q = ((W.drewN q).alloc o1).alloc o2 := rfl
  rw [h, alloc_eq_grow, alloc_eq_grow, grow_grow]
  rfl
set_option maxRecDepth 100000 in
set_option maxHeartbeats 2000000 in
theorem cmp_any (w : World) (a b : ByteArray) (ha : a.size < 4294967281) (hb : b.size < 4294967281) :
    Calls Tryd.prog 61 #[.string a, .string b] w fun e w' => e = .returned (.int .i64 (pcmp a b)) ∧ ∃ q os, w' = grow (w.drewN q) os := by
  have hsa := fun W => split_c W a ha
  have hsb := fun W => split_c W b hb
  have HSA := Aside0.mk hsa
  have HSB := Aside0.mk hsb
  clear hsa hsb ha hb
  go_enter Tryd.func61, Tryd.ntmps61
  go_wp2_with fail
  refine (HSA.out _).mono ?_
  rintro e w1 ⟨lA, hA, nA, rfl, rfl⟩
  go_wp2_with fail
  refine (HSB.out _).mono ?_
  rintro e w2 ⟨lB, hB, nB, rfl, rfl⟩
  obtain ⟨r, hpr⟩ : ∃ r, pcmp a b = r := ⟨_, rfl⟩
  have hr : Aside0 (cmpN (lA.map (·.data.toList)) (lB.map (·.data.toList)) = r) := ⟨by rw [hA.out, hB.out]; exact hpr⟩
  have HPR := Aside0.mk hpr
  clear hpr
  go_wp2_with fail
  generalize hm : mn (lA.length : Int) (lB.length : Int) = m
  have hm1 : m ≤ lA.length ∧ m ≤ lB.length ∧ (m = lA.length ∨ m = lB.length) := by unfold mn at hm; split at hm <;> omega
  clear hm
  go_loopw [18] (fun i wr => ∃ k q : Nat, (k : Int) ≤ m ∧ i = .int .i64 (k : Int) ∧ Aside0 (cmpN ((lA.drop k).map (·.data.toList)) ((lB.drop k).map (·.data.toList)) = r) ∧ Aside0 (wr = ((w.alloc (.cells (lA.map Value.string).toArray 9)).alloc (.cells (lB.map Value.string).toArray 9)).drewN q)) (fun i _ => m.toNat - (RowKit.intOf i).toNat)
  case atStart => exact ⟨0, 0, by omega, rfl, hr, ⟨rfl⟩⟩
  case round =>
    obtain ⟨k, q, hk, rfl, HR, HW⟩ := hrel
    have hw := HW.out
    subst hw
    clear HW
    by_cases hlt : (k : Int) < m
    · have hka : k < lA.length := by omega
      have hkb : k < lB.length := by omega
      have hR := HR.out
      rw [List.drop_eq_getElem_cons hka, List.drop_eq_getElem_cons hkb, List.map_cons, List.map_cons] at hR
      have hsc := fun W => strcmp_c W lA[k] lB[k]
      simp only [cmpN, lexC] at hR
      generalize Lib.compareBytes lA[k].data.toList lB[k].data.toList = c at hR hsc
      have HSC := Aside0.mk hsc
      clear hsc
      go_wp2_with fail
      refine start_ (n := 10) (S := fun w' => w'.heap[w.heap.size]? = some (.cells (lA.map Value.string).toArray 9 (0, 0)) ∧ w'.heap[w.heap.size + 1]? = some (.cells (lB.map Value.string).toArray 9 (0, 0))) (ds := []) #[false, false, false, false, false, false, false, false, false, false] (by kernel_rfl) rfl rfl ⟨held, held⟩ (fun hHeld => ?_); refine with_tabW pcmpR.tab5 pcmpR.bits5 (fun HT_ HW_ => ?_)
      refine pure_ (i := 0) (N := some 21) (v := ?_) (a' := ?_) #[true, false, false, false, false, false, false, false, false, false] rfl rfl (any_of HT_.out (by kernel_rfl)) (fun _ _ _ h => h) (Or.inl ⟨by rfl, ?_⟩) ?_ ?_
      rotate_left
      · intro w'
        go_simp
        with_reducible rfl
      rotate_left
      · simp only [Act.put, List.setIfInBounds_toArray, List.set_cons_zero, List.set_cons_succ, i64_w, i32_w]
        rfl
      refine pure_ (i := 1) (N := some 22) (v := ?_) (a' := ?_) #[true, true, false, false, false, false, false, false, false, false] rfl rfl (any_of HT_.out (by kernel_rfl)) (fun _ _ _ h => h) (Or.inl ⟨by rfl, ?_⟩) ?_ ?_
      rotate_left
      · intro w'
        go_simp
        with_reducible rfl
      rotate_left
      · simp only [Act.put, List.setIfInBounds_toArray, List.set_cons_zero, List.set_cons_succ, i64_w, i32_w]
        rfl
      refine pure_ (i := 2) (N := some 23) (v := ?_) (a' := ?_) #[true, true, true, false, false, false, false, false, false, false] rfl rfl (any_of HT_.out (by kernel_rfl)) (fun _ _ _ h => h) (Or.inl ⟨by rfl, ?_⟩) ?_ ?_
      rotate_left
      · intro w'
        go_simp
        with_reducible rfl
      rotate_left
      · simp only [Act.put, List.setIfInBounds_toArray, List.set_cons_zero, List.set_cons_succ, i64_w, i32_w]
        rfl
      refine pure_ (i := 4) (N := some 25) (v := ?_) (a' := ?_) #[true, true, true, false, true, false, false, false, false, false] rfl rfl (any_of HT_.out (by kernel_rfl)) (fun _ _ _ h => h) (Or.inl ⟨by rfl, ?_⟩) ?_ ?_
      rotate_left
      · intro w'
        go_simp
        with_reducible rfl
      rotate_left
      · simp only [Act.put, List.setIfInBounds_toArray, List.set_cons_zero, List.set_cons_succ, i64_w, i32_w]
        rfl
      refine pure_ (i := 5) (N := some 26) (v := ?_) (a' := ?_) #[true, true, true, false, true, true, false, false, false, false] rfl rfl (any_of HT_.out (by kernel_rfl)) (fun _ _ _ h => h) (Or.inl ⟨by rfl, ?_⟩) ?_ ?_
      rotate_left
      · intro w'
        go_simp
        with_reducible rfl
      rotate_left
      · simp only [Act.put, List.setIfInBounds_toArray, List.set_cons_zero, List.set_cons_succ, i64_w, i32_w]
        rfl
      refine pure_ (i := 6) (N := some 27) (v := ?_) (a' := ?_) #[true, true, true, false, true, true, true, false, false, false] rfl rfl (any_of HT_.out (by kernel_rfl)) (fun _ _ _ h => h) (Or.inl ⟨by rfl, ?_⟩) ?_ ?_
      rotate_left
      · intro w'
        go_simp
        with_reducible rfl
      rotate_left
      · simp only [Act.put, List.setIfInBounds_toArray, List.set_cons_zero, List.set_cons_succ, i64_w, i32_w]
        rfl
      refine take_ (i := 3) (N := some 24) (v := ?_) (a' := ?_) #[true, true, true, true, true, true, true, false, false, false] rfl rfl (take_ofW HT_.out HW_.out (by kernel_rfl)) (fun _ _ _ h => h) (Or.inl ⟨by rfl, ?_⟩) hHeld ?_ ?_
      rotate_left
      · rintro w' ⟨s0, s1⟩
        have i0 : Holds w' w.heap.size (.cells (lA.map Value.string).toArray 9) := ⟨s0⟩
        have i1 : Holds w' (w.heap.size + 1) (.cells (lB.map Value.string).toArray 9) := ⟨s1⟩
        go_simp
        with_reducible rfl
      rotate_left
      · simp only [Act.put, List.setIfInBounds_toArray, List.set_cons_zero, List.set_cons_succ, i64_w, i32_w]
        rfl
      refine take_ (i := 7) (N := some 28) (v := ?_) (a' := ?_) #[true, true, true, true, true, true, true, true, false, false] rfl rfl (take_ofW HT_.out HW_.out (by kernel_rfl)) (fun _ _ _ h => h) (Or.inl ⟨by rfl, ?_⟩) hHeld ?_ ?_
      rotate_left
      · rintro w' ⟨s0, s1⟩
        have i0 : Holds w' w.heap.size (.cells (lA.map Value.string).toArray 9) := ⟨s0⟩
        have i1 : Holds w' (w.heap.size + 1) (.cells (lB.map Value.string).toArray 9) := ⟨s1⟩
        go_simp
        with_reducible rfl
      rotate_left
      · simp only [Act.put, List.setIfInBounds_toArray, List.set_cons_zero, List.set_cons_succ, i64_w, i32_w]
        rfl
      refine one_ (i := 8) (N := some 29) #[true, true, true, true, true, true, true, true, true, false] rfl rfl (one_of HT_.out (by kernel_rfl)) (by decide) (fun K hK => ?_)
      refine goes_ Tryd.func81 (by kernel_rfl) rfl #[.string lA[k], .string lB[k]] (by rfl) rfl rfl (by (try simp only [List.map_toArray, List.map_cons, List.map_nil]); first | done | rfl) ?_
      refine (HSC.out _).mono ?_
      rintro e1 w1 ⟨rfl, rfl⟩
      refine ⟨_, rfl, ?_⟩
      refine hK.out _ _ ⟨held, held⟩ (fun hHeld => ?_)
      clear hK K
      refine norm_ (a' := ?_) ?_ ?_
      rotate_left
      · show Act.put _ (some 29) _ = _
        simp only [Act.put, List.setIfInBounds_toArray, List.set_cons_zero, List.set_cons_succ, i64_w, i32_w]
        rfl
      refine pure_ (i := 9) (N := some 8) (v := ?_) (a' := ?_) #[true, true, true, true, true, true, true, true, true, true] rfl rfl (any_of HT_.out (by kernel_rfl)) (fun _ _ _ h => h) (Or.inl ⟨by rfl, ?_⟩) ?_ ?_
      rotate_left
      · intro w'
        go_simp
        with_reducible rfl
      rotate_left
      · simp only [Act.put, List.setIfInBounds_toArray, List.set_cons_zero, List.set_cons_succ, i64_w, i32_w]
        rfl
      refine done_ (done_of HT_.out (by kernel_rfl)) ?_
      by_cases h0 : c = 0
      · subst h0
        rw [if_pos rfl] at hR
        have HR' := Aside0.mk hR
        clear hR
        go_wp2_with fail
        go_roundw
        case rel => exact ⟨k + 1, q + 1, by omega, by go_num, HR', ⟨rfl⟩⟩
        case measure => simp [RowKit.intOf]; omega
      · rw [if_neg h0] at hR
        subst hR
        have hz1 : (c != 0) = true := bne_iff_ne.mpr h0
        have hz2 : (c == 0) = false := beq_eq_false_iff_ne.mpr h0
        go_wp2_with fail
        go_ret
        exact ⟨by rw [HPR.out]; rfl, q + 1, _, two_grow _ _ _ (q + 1)⟩
    · have hR := HR.out
      have he := lex_end Lib.compareBytes (lA.map (·.data.toList)) (lB.map (·.data.toList)) k (by simp only [List.length_map]; omega) (by simp only [List.length_map]; omega) (by simp only [List.length_map]; omega)
      unfold cmpN at hR
      rw [List.map_drop, List.map_drop, he] at hR
      simp only [List.length_map] at hR
      have hic := fun W => intcmp_c W lA.length lB.length
      rw [hR] at hic
      have HIC := Aside0.mk hic
      clear hR he hic HR
      go_wp2_with fail
      refine (HIC.out _).mono ?_
      rintro e w3 ⟨rfl, rfl⟩
      go_wp2_with fail
      go_ret
      exact ⟨by rw [HPR.out]; rfl, q, _, two_grow _ _ _ q⟩
theorem grow_below (w : World) (q : Nat) (os : Array Obj) : Below w.heap.size w (grow (w.drewN q) os) := by
  have h : (w.drewN q).heap = w.heap := rfl
  exact ⟨rfl, rfl, rfl, by show w.heap.size ≤ ((w.drewN q).heap ++ os).size; rw [h, Array.size_append]; omega, fun k hk => by show ((w.drewN q).heap ++ os)[k]? = w.heap[k]?; rw [h, Array.getElem?_append_left hk]⟩
def path_Compare.f (a b : ByteArray) : Option Int := if a.size ≤ 65536 ∧ b.size ≤ 65536 then some (pcmp a b) else none
theorem path_Compare.calls (a0 : ByteArray) (a1 : ByteArray) (r : Int) (w : World) (h : path_Compare.f a0 a1 = some r) :
    Calls Tryd.prog 61 #[.string a0, .string a1] w fun e w' => e = .returned (.int .i64 r) ∧ Below w.heap.size w w' := by
  unfold path_Compare.f at h
  split at h
  · rename_i hs
    injection h with h
    subst h
    refine (cmp_any w a0 a1 (by omega) (by omega)).mono ?_
    rintro e w' ⟨rfl, q, os, rfl⟩
    exact ⟨rfl, grow_below _ _ _⟩
  · simp at h
end Go.Proofs.YtjllbkeobibnkaaDoor.Q

namespace Go.Proofs.YtjllbkeobibnkaaDoor.Q
open Go Go.Proofs Go.Shelf Go.RowKit Go.Lib Go.Sort Go.Proofs.YtjllbkeobibnkaaDoorP Go.Proofs.YtjllbkeobibnkaaDoorK Go.Proofs.YtjllbkeobibnkaaDoorW.PrintWords Go.Proofs.YtjllbkeobibnkaaDoorW.PrintLast Go.Proofs.YtjllbkeobibnkaaDoorW.PrintMore
set_option linter.unusedSimpArgs false
set_option linter.unusedVariables false
def withinS (d p : ByteArray) : Bool := (p.toList == d.toList) || belowS d p
def leP (x y : ByteArray) : Prop := ¬ pcmp y x < 0
instance (x y : ByteArray) : Decidable (leP x y) := inferInstanceAs (Decidable (¬ _))
def shortP (l : List ByteArray) : Bool := decide (l.length ≤ 1048576) && l.all fun p => decide (p.size ≤ 65536)
theorem shortP_mem {l : List ByteArray} (h : shortP l = true) : l.length ≤ 1048576 ∧ ∀ p ∈ l, p.size ≤ 65536 := by
  unfold shortP at h
  simp only [Bool.and_eq_true, decide_eq_true_eq, List.all_eq_true] at h
  exact h
end Go.Proofs.YtjllbkeobibnkaaDoor.Q

namespace Go.Proofs.YtjllbkeobibnkaaDoorP
open Go Go.Lib
def sepC (c : UInt8) : List UInt8 → List (List UInt8)
  | [] => [[]]
  | b :: l => if b = c then [] :: sepC c l else match sepC c l with
    | [] => [[b]]
    | n :: ns => (b :: n) :: ns
theorem sepC_ne (c : UInt8) (l : List UInt8) : sepC c l ≠ [] := by
  cases l with
  | nil => simp [sepC]
  | cons b l =>
    unfold sepC
    split
    · simp
    · split <;> simp
theorem names_sepC (l : List UInt8) : names l = sepC 47 l := by
  induction l with
  | nil => rfl
  | cons b l ih =>
    rw [names, sepC, ih]
    all_goals
      by_cases h : b = 47
      · rw [if_pos h, if_pos h]
      · rw [if_neg h, if_neg h]
        cases sepC 47 l <;> rfl
/-- Two texts with the byte between. -/
theorem sepC_app (c : UInt8) (a b : List UInt8) : sepC c (a ++ c :: b) = sepC c a ++ sepC c b := by
  induction a with
  | nil => simp [sepC]
  | cons x a ih =>
    rw [List.cons_append, sepC, sepC, ih]
    by_cases h : x = c
    · rw [if_pos h, if_pos h]; rfl
    · rw [if_neg h, if_neg h]
      cases hs : sepC c a with
      | nil => exact absurd hs (sepC_ne c a)
      | cons n ns => rfl
theorem sepC_free (c : UInt8) (a : List UInt8) (h : c ∉ a) : sepC c a = [a] := by
  induction a with
  | nil => rfl
  | cons x a ih =>
    unfold sepC
    rw [if_neg (fun e => h (by rw [e]; exact List.mem_cons_self)), ih (fun hm => h (List.mem_cons_of_mem _ hm))]
end Go.Proofs.YtjllbkeobibnkaaDoorP

namespace Go.Proofs.YtjllbkeobibnkaaDoor.Q
open Go Go.Proofs Go.Shelf Go.RowKit Go.Lib Go.Sort Go.Proofs.YtjllbkeobibnkaaDoorP Go.Proofs.YtjllbkeobibnkaaDoorK Go.Proofs.YtjllbkeobibnkaaDoorW.PrintWords Go.Proofs.YtjllbkeobibnkaaDoorW.PrintLast Go.Proofs.YtjllbkeobibnkaaDoorW.PrintMore
set_option linter.unusedSimpArgs false
set_option linter.unusedVariables false
theorem rdB (l : List ByteArray) (i : Nat) (h : i < l.length) : rdOf ByteArray.empty l (i : Int) = l[i] := by unfold rdOf; simp [h]
theorem wr1 (i : Nat) (h : i < 1048577) : wrap64 ((i : Int) + 1) = ((i + 1 : Nat) : Int) := by unfold wrap64; omega
theorem wr (i : Nat) (h : i < 1048576) : wrap64 ((i : Int) + 1) = ((i + 1 : Nat) : Int) := by unfold wrap64; omega
theorem split_first (c : UInt8) (l : List UInt8) (h : c ∈ l) : ∃ a b, l = a ++ c :: b ∧ c ∉ a := by
  induction l with
  | nil => simp at h
  | cons x l ih =>
    by_cases hx : x = c
    · exact ⟨[], l, by rw [hx]; rfl, by simp⟩
    · obtain ⟨a, b, h1, h2⟩ := ih ((List.mem_cons.1 h).resolve_left (fun e => hx e.symm))
      exact ⟨x :: a, b, by rw [h1, List.cons_append], by simp [h2, Ne.symm hx]⟩
theorem index_first (c : UInt8) (a b : List UInt8) (h : c ∉ a) : index (a ++ c :: b) [c] = (a.length : Int) := by
  induction a with
  | nil => rw [List.nil_append, index_cons_eq]; rfl
  | cons x a ih =>
    have hx : x ≠ c := fun e => h (by rw [e]; exact List.mem_cons_self)
    rw [List.cons_append, index_cons_ne _ x c hx, ih (fun hm => h (List.mem_cons_of_mem _ hm)), if_neg (by simp), List.length_cons]
    omega
theorem index_free (c : UInt8) (a : List UInt8) (h : c ∉ a) : index a [c] = -1 := by
  induction a with
  | nil => rfl
  | cons x a ih =>
    have hx : x ≠ c := fun e => h (by rw [e]; exact List.mem_cons_self)
    rw [index_cons_ne _ x c hx, ih (fun hm => h (List.mem_cons_of_mem _ hm))]
    rfl
theorem kindsL_cons (n : List UInt8) (l : List (List UInt8)) (k : Int) : kindsL (n :: l) k = if kindL n = 0 then none else if kindL n = 2 ∧ l ≠ [] then none else kindsL l (kindL n) := rfl
theorem kindsL_last (l : List (List UInt8)) : ∀ k r, kindsL l k = some r → r = match l.getLast? with | none => k | some n => kindL n := by
  induction l with
  | nil => intro k r h; simp [kindsL] at h; simp [h]
  | cons n l ih =>
    intro k r h
    unfold kindsL at h
    split at h
    · cases h
    · split at h
      · cases h
      · have := ih _ _ h
        rw [this]
        cases l with
        | nil => rfl
        | cons m l => rw [List.getLast?_cons_cons]; cases hg : (m :: l).getLast? with
          | none => simp at hg
          | some x => rfl
end Go.Proofs.YtjllbkeobibnkaaDoor.Q

namespace Go.Proofs.YtjllbkeobibnkaaDoor.Q
open Go Go.Proofs Go.Shelf Go.RowKit Go.Lib Go.Sort Go.Proofs.YtjllbkeobibnkaaDoorP Go.Proofs.YtjllbkeobibnkaaDoorK Go.Proofs.YtjllbkeobibnkaaDoorW.PrintWords Go.Proofs.YtjllbkeobibnkaaDoorW.PrintLast Go.Proofs.YtjllbkeobibnkaaDoorW.PrintMore
set_option linter.unusedSimpArgs false
set_option linter.unusedVariables false
def okK (least : Int) (k : S58) : Bool := decide (kindS k.f0 = (2, 0)) && (decide (0 ≤ k.f1.f1) && (decide (k.f1.f1 ≤ 4096) && (decide (least ≤ k.f1.f0) && decide (k.f1.f0 ≤ 1099511627776))))
def listA (least : Int) : Option ByteArray → List S58 → Bool
  | _, [] => true
  | q, k :: l => okK least k && ((match q with | none => true | some y => decide (pcmp y k.f0 < 0)) && listA least (some k.f0) l)
def prevK (l : List S58) : Nat → Option ByteArray
  | 0 => none
  | j + 1 => l[j]?.map (·.f0)
def shortK (l : List S58) : Bool := decide (l.length ≤ 1048576) && l.all fun k => decide (k.f0.size ≤ 65536)
theorem shortK_open {l : List S58} (h : shortK l = true) : l.length ≤ 1048576 ∧ ∀ k ∈ l, k.f0.size ≤ 65536 := by
  unfold shortK at h
  simpa using h
attribute [local go_sem] A51_size A51_0 A51_1 A51_g0 A51_g1 A58_size A58_0 A58_1 A58_2 A58_g0 A58_g1 A58_g2 cell_held frozen_held
attribute [local go_sem] zero51 zero58 zero65
attribute [local go_sem ↓ high] lvx_of
attribute [local go_sem] lv_sc lv24 lv33
attribute [local go_sem ↓ high] lv51 lv51s lv58 lv58a lv65 lv65a lv65l lv65r sc51 sc58 sc65 sc65a sc65l sc65r sc58a
set_option maxRecDepth 100000 in
set_option maxHeartbeats 4000000 in
theorem list_any (w : World) (A : Option Addr) (c : Nat) (l : List S58) (least : Int) (hC : k58.C w A l.length l) (hs : shortK l = true) :
    Calls Tryd.prog 53 #[.slice A l.length c, .int .i64 least] w fun e w' => e = .returned (.bool (listA least none l)) ∧ Below w.heap.size w w' := by
  obtain ⟨hl, hsz⟩ := shortK_open hs
  have HR := Aside0.mk hC
  have HZ := Aside0.mk hsz
  have HB0 := Aside0.mk (Below.refl w.heap.size w)
  obtain ⟨R, hR⟩ : ∃ R, listA least none l = R := ⟨_, rfl⟩
  rw [hR]
  clear hC hs hsz
  go_enter Tryd.func53, Tryd.ntmps53
  go_wp2_with fail
  go_loopw [12] (fun i wr => ∃ j : Nat, j ≤ l.length ∧ i = .int .i64 (j : Int) ∧ Aside0 (listA least (prevK l j) (l.drop j) = R) ∧ Aside0 (Below w.heap.size w wr)) (fun i _ => l.length - (intOf i).toNat)
  case atStart => exact ⟨0, Nat.zero_le _, rfl, ⟨hR⟩, HB0⟩
  case round =>
    obtain ⟨j, hj, rfl, HI, HB⟩ := hrel
    have bw : Bel w.heap.size w wr := ⟨fun _ => HB.out⟩
    have ow : OwnB w.heap.size (.row wr.heap.size) := own_row HB.out.size
    by_cases hlt : j < l.length
    · obtain ⟨ad, e, x0⟩ := C58_at HR.out j hlt
      subst e
      have hd := List.drop_eq_getElem_cons hlt
      have hmem := List.getElem_mem hlt
      have hx := HZ.out _ hmem
      have hnext : prevK l (j + 1) = some l[j].f0 := by show l[j]?.map (·.f0) = _; rw [List.getElem?_eq_getElem hlt]; rfl
      have hI := HI.out
      rw [hd] at hI
      simp only [listA] at hI
      rw [← hnext] at hI
      have HN := Aside0.mk hnext
      have hk := fun W => Kind_any W l[j].f0 hx
      generalize l[j] = x at x0 hI hk hx HN
      replace x0 := At_below x0 HB.out
      have X0 := Aside0.mk x0
      clear hd hmem HI x0 hnext
      cases hok : okK least x with
      | false =>
        rw [hok, Bool.false_and] at hI
        have HI := Aside0.mk hI
        have HK := Aside0.mk hk
        have HX := Aside0.mk hok
        clear hI hk hok hR hx
        go_wp2_with (refine seg_load rfl 58 (.tmp 15) rfl X0.out (A58 x) rfl rfl Tryd.underlying58 rfl (by rw [L58_len]; exact info58s) ?_)
        refine (HK.out _).mono ?_
        rintro e w1 ⟨rfl, hb1⟩
        have p1 := prev_call hb1
        clear hb1
        go_wp2_with fail
        case' _ =>
          have hv : (decide (x.f1.f0 ≤ 1099511627776)) = false := by
            have := HX.out
            unfold okK at this
            rw [decide_eq_true (Prod.ext (by assumption) (by assumption)), decide_eq_true (by assumption : 0 ≤ x.f1.f1), decide_eq_true (by assumption : x.f1.f1 ≤ 4096), decide_eq_true (by assumption : least ≤ x.f1.f0)] at this
            simpa using this
          simp only [hv]
        all_goals
          go_quiet (fail)
          go_wp2_with fail
          go_ret
          exact ⟨by rw [← HI.out]; rfl, bel _ _⟩
      | true =>
        rw [hok, Bool.true_and] at hI
        unfold okK at hok
        simp only [Bool.and_eq_true, decide_eq_true_eq] at hok
        obtain ⟨hk0, k1, k2, k3, k4⟩ := hok
        rw [hk0] at hk
        dsimp only at hk
        have HK := Aside0.mk hk
        clear hk hR hk0
        by_cases h0 : j = 0
        · subst h0
          simp only [prevK, Bool.true_and] at hI
          have HI := Aside0.mk hI
          clear hI hx
          go_wp2_with (refine seg_load rfl 58 (.tmp 15) rfl X0.out (A58 x) rfl rfl Tryd.underlying58 rfl (by rw [L58_len]; exact info58s) ?_)
          refine (HK.out _).mono ?_
          rintro e w1 ⟨rfl, hb1⟩
          have p1 := prev_call hb1
          clear hb1
          go_wp2_with fail
          go_quiet (fail)
          go_wp2_with fail
          go_roundw
          case rel => exact ⟨1, by omega, by go_num, HI, ⟨bel _ _⟩⟩
          case measure => simp [intOf]; omega
        · obtain ⟨i, hi⟩ : ∃ i, j = i + 1 := ⟨j - 1, by omega⟩
          have hil : i < l.length := by omega
          obtain ⟨ad2, e2, y0⟩ := C58_at HR.out i hil
          obtain rfl : ad = ad2 := Option.some.inj e2
          have hy := HZ.out _ (List.getElem_mem hil)
          have hp : prevK l j = some l[i].f0 := by rw [hi]; show l[i]?.map (·.f0) = _; rw [List.getElem?_eq_getElem hil]; rfl
          rw [hp] at hI
          generalize l[i] = y at y0 hI hy
          dsimp only at hI
          have hc := fun W => cmp_any W y.f0 x.f0 (by omega) (by omega)
          have HCP := Aside0.mk hc
          have hw1 : IntKind.i64.wrap ((j : Int) - 1) = (i : Int) := by rw [i64_w]; unfold wrap64; omega
          have Y0 := Aside0.mk (At_below y0 HB.out)
          have hj0 : 0 < (j : Int) := by omega
          have hj1 : decide ((0 : Int) < (j : Int)) = true := decide_eq_true hj0
          have hj2 : 0 < j := by omega
          have hj3 : (0 : Int) ≤ (i : Int) := by omega
          have hj4 : (i : Int) < (l.length : Int) := by omega
          have hj5 : i < l.length := hil
          have HJ := Aside0.mk hi
          clear hc hp y0 e2 hx hy hi h0
          have HII := Aside0.mk hI
          clear hI
          go_wp2_with (refine seg_load rfl 58 (.tmp 15) rfl X0.out (A58 x) rfl rfl Tryd.underlying58 rfl (by rw [L58_len]; exact info58s) ?_)
          refine (HK.out _).mono ?_
          rintro e w1 ⟨rfl, hb1⟩
          have p1 := prev_call hb1
          clear hb1
          have y1 := (At58 (At_below Y0.out (bel wr w1))).1
          rw [add_zero_] at y1
          go_wp2_with fail
          go_still_tail 14, (by kernel_rfl)
          change wpList _ _ _ _ _ w1.drew
          have p2 : Prev w1.drew w1 .none := inferInstance
          generalize w1.drew = w2 at p2 ⊢
          by_cases hc : pcmp y.f0 x.f0 < 0
          · have hI := HII.out
            rw [decide_eq_true hc, Bool.true_and] at hI
            have HI := Aside0.mk hI
            have hge : ¬ (0 ≤ pcmp y.f0 x.f0) := by omega
            clear hc hI
            go_wp2_with fail
            refine (HCP.out _).mono ?_
            rintro e w3 ⟨rfl, q, os, hb⟩
            have p3 : Prev w3 w2 .none := prev_call (hb ▸ grow_below w2 q os)
            clear hb
            go_wp2_with fail
            go_roundw
            case rel => exact ⟨j + 1, by omega, by go_num, HI, ⟨bel _ _⟩⟩
            case measure => simp [intOf]; omega
          · have hI := HII.out
            rw [decide_eq_false hc, Bool.false_and] at hI
            have HI := Aside0.mk hI
            have hge : (0 ≤ pcmp y.f0 x.f0) := by omega
            clear hc hI
            go_wp2_with fail
            refine (HCP.out _).mono ?_
            rintro e w3 ⟨rfl, q, os, hb⟩
            have p3 : Prev w3 w2 .none := prev_call (hb ▸ grow_below w2 q os)
            clear hb
            go_wp2_with fail
            go_ret
            exact ⟨by rw [← HI.out]; rfl, bel _ _⟩
    · have hI := HI.out
      rw [List.drop_of_length_le (by omega)] at hI
      have HI' := Aside0.mk hI
      clear hI HI
      go_wp2_with fail
      go_ret
      exact ⟨by rw [← HI'.out]; rfl, HB.out⟩
end Go.Proofs.YtjllbkeobibnkaaDoor.Q

namespace Go.Proofs.YtjllbkeobibnkaaDoor.Q
open Go Go.Proofs Go.Shelf Go.RowKit Go.Lib Go.Sort Go.Proofs.YtjllbkeobibnkaaDoorP Go.Proofs.YtjllbkeobibnkaaDoorK Go.Proofs.YtjllbkeobibnkaaDoorW.PrintWords Go.Proofs.YtjllbkeobibnkaaDoorW.PrintLast Go.Proofs.YtjllbkeobibnkaaDoorW.PrintMore
set_option linter.unusedSimpArgs false
set_option linter.unusedVariables false
def mergeA (a : ByteArray) (r : List ByteArray → List ByteArray) : List ByteArray → List ByteArray
  | [] => a :: r []
  | b :: y => if pcmp a b < 0 then a :: r (b :: y) else if 0 < pcmp a b then b :: mergeA a r y else a :: r y
def mergeL : List ByteArray → List ByteArray → List ByteArray
  | [], y => y
  | a :: x, y => mergeA a (mergeL x) y
theorem mergeL_nil (y : List ByteArray) : mergeL [] y = y := rfl
theorem mergeL_end (a : ByteArray) (x : List ByteArray) : mergeL (a :: x) [] = a :: mergeL x [] := rfl
theorem mergeL_cons (a b : ByteArray) (x y : List ByteArray) : mergeL (a :: x) (b :: y) = if pcmp a b < 0 then a :: mergeL x (b :: y) else if 0 < pcmp a b then b :: mergeL (a :: x) y else a :: mergeL x y := rfl
theorem mergeL_len (x : List ByteArray) : ∀ y, (mergeL x y).length ≤ x.length + y.length := by
  induction x with
  | nil => intro y; rw [mergeL_nil]; simp
  | cons a x ih =>
    intro y
    induction y with
    | nil => rw [mergeL_end]; have := ih []; simp at this ⊢; omega
    | cons b y ih2 =>
      rw [mergeL_cons]
      split
      · have := ih (b :: y); simp at this ⊢; omega
      · split
        · simp at ih2 ⊢; omega
        · have := ih y; simp at this ⊢; omega
def pathsK (l : List S58) : List ByteArray := l.map (·.f0)
def lenV : Value → Nat
  | .slice _ n _ => n
  | _ => 0
attribute [local go_sem] A51_size A51_0 A51_1 A51_g0 A51_g1 A58_size A58_0 A58_1 A58_2 A58_g0 A58_g1 A58_g2 cell_held frozen_held
attribute [local go_sem] zero51 zero58 zero65
attribute [local go_sem ↓ high] lvx_of
attribute [local go_sem] lv_sc lv24 lv33
attribute [local go_sem ↓ high] lv51 lv51s lv58 lv58a lv65 lv65a lv65l lv65r sc51 sc58 sc65 sc65a sc65l sc65r sc58a
set_option maxRecDepth 100000 in
set_option maxHeartbeats 4000000 in
theorem merge_any (w : World) (A : Option Addr) (c : Nat) (x : List S58) (B : Option Addr) (d : Nat) (y : List S58) (hC : k58.C w A x.length x) (hx : shortK x = true) (hxc : x.length ≤ c) (hD : k58.C w B y.length y) (hy : shortK y = true) (hyd : y.length ≤ d) :
    Calls Tryd.prog 69 #[.slice A x.length c, .slice B y.length d] w fun e w' => ∃ v, e = .returned v ∧ Kd.string.R 9 w' w.heap.size (fun _ => True) v (mergeL (pathsK x) (pathsK y)) ∧ Below w.heap.size w w' := by
  have hx1 := (shortK_open hx).1
  have hy1 := (shortK_open hy).1
  have HX := Aside0.mk hC
  have HY := Aside0.mk hD
  have HSX := Aside0.mk (shortK_open hx).2
  have HSY := Aside0.mk (shortK_open hy).2
  obtain ⟨R, hR⟩ : ∃ R, mergeL (pathsK x) (pathsK y) = R := ⟨_, rfl⟩
  rw [hR]
  have HR := Aside0.mk hR
  clear hC hD hx hy hR
  go_enter Tryd.func69, Tryd.ntmps69
  go_wp2_with fail
  go_loopw [0, 1, 5] (fun u v o wr => ∃ (A' : Option Addr) (c' : Nat) (xs : List S58) (B' : Option Addr) (d' : Nat) (ys : List S58) (out : List ByteArray), u = .slice A' xs.length c' ∧ v = .slice B' ys.length d' ∧ xs.length ≤ c' ∧ ys.length ≤ d' ∧ Aside0 (k58.C w A' xs.length xs) ∧ Aside0 (k58.C w B' ys.length ys) ∧ Aside0 (∀ k ∈ xs, k.f0.size ≤ 65536) ∧ Aside0 (∀ k ∈ ys, k.f0.size ≤ 65536) ∧ Aside0 (out ++ mergeL (pathsK xs) (pathsK ys) = R) ∧ out.length + xs.length + ys.length ≤ 2097152 ∧ Aside0 (Kd.string.R 9 wr w.heap.size (fun _ => True) o out) ∧ Aside0 (Below w.heap.size w wr)) (fun u v _ _ => lenV u + lenV v)
  case atStart => exact ⟨A, c, x, B, d, y, [], rfl, rfl, hxc, hyd, HX, HY, HSX, HSY, HR, by simp; omega, ⟨Kd.R_nil _ _ _ _ _⟩, ⟨bel _ _⟩⟩
  case round =>
    obtain ⟨A', c', xs, B', d', ys, out, rfl, rfl, hc', hd', HX', HY', HZX, HZY, HI, hlen, HO, HB⟩ := hrel
    have bw : Bel w.heap.size w wr := ⟨fun _ => HB.out⟩
    clear HX HY HSX HSY HR
    obtain ⟨Ao, co, ho⟩ := Kd.R_slice HO.out
    subst ho
    cases xs with
    | nil => cases ys with
      | nil =>
        have hI := HI.out
        simp only [pathsK, List.map_nil, mergeL_nil, List.append_nil] at hI
        subst hI
        go_wp2_with fail
        go_ret
        exact ⟨_, rfl, HO.out, bel _ _⟩
      | cons b ys =>
        have HXC := HX'
        clear HX'
        obtain ⟨ad, ey, y0⟩ := C58_at HY'.out 0 (by simp)
        subst ey
        simp only [List.getElem_cons_zero] at y0
        have yq := At_below y0 HB.out
        rw [Nat.zero_mul, add_zero_] at yq
        have YQ := Aside0.mk yq
        have y1 := (At58 yq).1
        rw [add_zero_] at y1
        have hyd := Kd.C_drop HY'.out (m := 1) (by simp) hd'
        simp only [List.drop_succ_cons, List.drop_zero] at hyd
        have HYD := Aside0.mk hyd
        have hI := HI.out
        simp only [pathsK, List.map_nil, List.map_cons, mergeL_nil] at hI
        rw [← List.singleton_append, ← List.append_assoc] at hI
        have HIN : Aside0 ((out ++ [b.f0]) ++ mergeL (pathsK []) (pathsK ys) = R) := ⟨hI⟩
        have HZYD : Aside0 (∀ k ∈ ys, k.f0.size ≤ 65536) := ⟨fun k hk => HZY.out k (List.mem_cons_of_mem _ hk)⟩
        simp only [List.length_cons] at hlen hd' ⊢
        clear y0 yq hyd hI HI
        go_wp2_with ((with_reducible refine gate_builtin (b := .append) (xs := #[.tmp 43, .tmp 48]) rfl ?_); at_builtin; refine app41 (w0 := w) w.heap.size rfl (.tmp 43) (.tmp 48) rfl (.slice Ao out.length co) out b.f0 rfl ?aX ?aO ?aB ?aS ?aL ?_; (case aX => first | rfl | (simp only [World.size_setCell, size_setRow, World.size_alloc]; rfl)); (case aO => exact rowB HO.out (bel wr _)); (case aB => exact (inferInstance : Bel w.heap.size w _).out (by first | exact Nat.le_refl _ | omega)); (case aS => first | exact siz w _ | (have := siz w _; omega)); (case aL => omega); intro v6 w6 h6 hb6 hg6 hat6; have p6 := prev_above hb6; have HB6 := Aside0.mk hb6; have HV6 := Aside0.mk h6; clear hb6 h6 hg6 hat6)
        go_roundw
        case rel => exact ⟨_, _, [], _, _, ys, _, rfl, rfl, by simp only [List.length_cons, List.length_nil] at *; omega, by simp only [List.length_cons, List.length_nil] at *; omega, HXC, HYD, HZX, HZYD, HIN, by simp only [List.length_append, List.length_cons, List.length_nil] at *; omega, HV6, HB6⟩
        case measure => simp only [lenV, List.length_cons, List.length_nil]; omega
    | cons a xs => cases ys with
      | nil =>
        have HYC := HY'
        clear HY'
        obtain ⟨ae, ex, x0⟩ := C58_at HX'.out 0 (by simp)
        subst ex
        simp only [List.getElem_cons_zero] at x0
        have xq := At_below x0 HB.out
        rw [Nat.zero_mul, add_zero_] at xq
        have XQ := Aside0.mk xq
        have x1 := (At58 xq).1
        rw [add_zero_] at x1
        have hxd := Kd.C_drop HX'.out (m := 1) (by simp) hc'
        simp only [List.drop_succ_cons, List.drop_zero] at hxd
        have HXD := Aside0.mk hxd
        have hI := HI.out
        simp only [pathsK, List.map_nil, List.map_cons, mergeL_end] at hI
        rw [← List.singleton_append, ← List.append_assoc] at hI
        have HIN : Aside0 ((out ++ [a.f0]) ++ mergeL (pathsK xs) (pathsK []) = R) := ⟨hI⟩
        have HZXD : Aside0 (∀ k ∈ xs, k.f0.size ≤ 65536) := ⟨fun k hk => HZX.out k (List.mem_cons_of_mem _ hk)⟩
        simp only [List.length_cons] at hlen hc' ⊢
        clear x0 xq hxd hI HI
        go_wp2_with ((with_reducible refine gate_builtin (b := .append) (xs := #[.tmp 34, .tmp 39]) rfl ?_); at_builtin; refine app41 (w0 := w) w.heap.size rfl (.tmp 34) (.tmp 39) rfl (.slice Ao out.length co) out a.f0 rfl ?aX ?aO ?aB ?aS ?aL ?_; (case aX => first | rfl | (simp only [World.size_setCell, size_setRow, World.size_alloc]; rfl)); (case aO => exact rowB HO.out (bel wr _)); (case aB => exact (inferInstance : Bel w.heap.size w _).out (by first | exact Nat.le_refl _ | omega)); (case aS => first | exact siz w _ | (have := siz w _; omega)); (case aL => omega); intro v6 w6 h6 hb6 hg6 hat6; have p6 := prev_above hb6; have HB6 := Aside0.mk hb6; have HV6 := Aside0.mk h6; clear hb6 h6 hg6 hat6)
        go_roundw
        case rel => exact ⟨_, _, xs, _, _, [], _, rfl, rfl, by simp only [List.length_cons, List.length_nil] at *; omega, by simp only [List.length_cons, List.length_nil] at *; omega, HXD, HYC, HZXD, HZY, HIN, by simp only [List.length_append, List.length_cons, List.length_nil] at *; omega, HV6, HB6⟩
        case measure => simp only [lenV, List.length_cons, List.length_nil]; omega
      | cons b ys =>
        obtain ⟨ae, ex, x0⟩ := C58_at HX'.out 0 (by simp)
        subst ex
        simp only [List.getElem_cons_zero] at x0
        have xq := At_below x0 HB.out
        rw [Nat.zero_mul, add_zero_] at xq
        have XQ := Aside0.mk xq
        have x1 := (At58 xq).1
        rw [add_zero_] at x1
        obtain ⟨ad, ey, y0⟩ := C58_at HY'.out 0 (by simp)
        subst ey
        simp only [List.getElem_cons_zero] at y0
        have yq := At_below y0 HB.out
        rw [Nat.zero_mul, add_zero_] at yq
        have YQ := Aside0.mk yq
        have y1 := (At58 yq).1
        rw [add_zero_] at y1
        have hxd := Kd.C_drop HX'.out (m := 1) (by simp) hc'
        simp only [List.drop_succ_cons, List.drop_zero] at hxd
        have HXD := Aside0.mk hxd
        have hyd := Kd.C_drop HY'.out (m := 1) (by simp) hd'
        simp only [List.drop_succ_cons, List.drop_zero] at hyd
        have HYD := Aside0.mk hyd
        have HZXD : Aside0 (∀ k ∈ xs, k.f0.size ≤ 65536) := ⟨fun k hk => HZX.out k (List.mem_cons_of_mem _ hk)⟩
        have HZYD : Aside0 (∀ k ∈ ys, k.f0.size ≤ 65536) := ⟨fun k hk => HZY.out k (List.mem_cons_of_mem _ hk)⟩
        have HXC := HX'
        have HYC := HY'
        have sa := HZX.out a List.mem_cons_self
        have sb := HZY.out b List.mem_cons_self
        have hcmp := fun W => cmp_any W a.f0 b.f0 (by omega) (by omega)
        have HCP := Aside0.mk hcmp
        have hI := HI.out
        simp only [pathsK, List.map_cons, mergeL_cons] at hI
        have HII := Aside0.mk hI
        simp only [List.length_cons] at hlen hc' hd' ⊢
        clear x0 xq y0 yq hxd hyd hI HI sa sb hcmp HX' HY'
        obtain ⟨c0, hc0⟩ : ∃ c0, pcmp a.f0 b.f0 = c0 := ⟨_, rfl⟩
        simp only [hc0] at HCP HII
        clear hc0
        rcases (show c0 < 0 ∨ 0 < c0 ∨ c0 = 0 by omega) with h0 | h0 | h0
        · have hI := HII.out
          rw [if_pos h0, ← List.singleton_append, ← List.append_assoc] at hI
          have HIN : Aside0 ((out ++ [a.f0]) ++ mergeL (pathsK xs) (pathsK (b :: ys)) = R) := ⟨hI⟩
          have g1 : c0 ≤ 0 := by omega
          have g2 : ¬ 0 ≤ c0 := by omega
          clear hI HII h0
          go_wp2_with fail
          go_still_tail 8, (by kernel_rfl)
          change wpList _ _ _ _ _ wr.drew
          have p2 : Prev wr.drew wr .none := inferInstance
          generalize wr.drew = w2 at p2 ⊢
          go_wp2_with fail
          refine (HCP.out _).mono ?_
          rintro e w3 ⟨rfl, q, os, hb⟩
          have p3 : Prev w3 w2 .none := prev_call (hb ▸ grow_below w2 q os)
          have x3 := (At58 (At_below XQ.out (bel wr w3))).1
          have y3 := (At58 (At_below YQ.out (bel wr w3))).1
          rw [add_zero_] at x3 y3
          clear hb
          go_wp2_with ((with_reducible refine gate_builtin (b := .append) (xs := #[.tmp 34, .tmp 39]) rfl ?_); at_builtin; refine app41 (w0 := w) w.heap.size rfl (.tmp 34) (.tmp 39) rfl (.slice Ao out.length co) out a.f0 rfl ?aX ?aO ?aB ?aS ?aL ?_; (case aX => first | rfl | (simp only [World.size_setCell, size_setRow, World.size_alloc]; rfl)); (case aO => exact rowB HO.out (bel wr _)); (case aB => exact (inferInstance : Bel w.heap.size w _).out (by first | exact Nat.le_refl _ | omega)); (case aS => first | exact siz w _ | (have := siz w _; omega)); (case aL => omega); intro v6 w6 h6 hb6 hg6 hat6; have p6 := prev_above hb6; have HB6 := Aside0.mk hb6; have HV6 := Aside0.mk h6; clear hb6 h6 hg6 hat6)
          go_roundw
          case rel => exact ⟨_, _, xs, _, _, (b :: ys), _, rfl, rfl, by simp only [List.length_cons, List.length_nil] at *; omega, by simp only [List.length_cons, List.length_nil] at *; omega, HXD, HYC, HZXD, HZY, HIN, by simp only [List.length_append, List.length_cons, List.length_nil] at *; omega, HV6, HB6⟩
          case measure => simp only [lenV, List.length_cons, List.length_nil]; omega
        · have hI := HII.out
          rw [if_neg (by omega), if_pos h0, ← List.singleton_append, ← List.append_assoc] at hI
          have HIN : Aside0 ((out ++ [b.f0]) ++ mergeL (pathsK (a :: xs)) (pathsK ys) = R) := ⟨hI⟩
          have g1 : ¬ c0 ≤ 0 := by omega
          have g2 : 0 ≤ c0 := by omega
          clear hI HII h0
          go_wp2_with fail
          go_still_tail 8, (by kernel_rfl)
          change wpList _ _ _ _ _ wr.drew
          have p2 : Prev wr.drew wr .none := inferInstance
          generalize wr.drew = w2 at p2 ⊢
          go_wp2_with fail
          refine (HCP.out _).mono ?_
          rintro e w3 ⟨rfl, q, os, hb⟩
          have p3 : Prev w3 w2 .none := prev_call (hb ▸ grow_below w2 q os)
          have x3 := (At58 (At_below XQ.out (bel wr w3))).1
          have y3 := (At58 (At_below YQ.out (bel wr w3))).1
          rw [add_zero_] at x3 y3
          clear hb
          go_wp2_with ((with_reducible refine gate_builtin (b := .append) (xs := #[.tmp 43, .tmp 48]) rfl ?_); at_builtin; refine app41 (w0 := w) w.heap.size rfl (.tmp 43) (.tmp 48) rfl (.slice Ao out.length co) out b.f0 rfl ?aX ?aO ?aB ?aS ?aL ?_; (case aX => first | rfl | (simp only [World.size_setCell, size_setRow, World.size_alloc]; rfl)); (case aO => exact rowB HO.out (bel wr _)); (case aB => exact (inferInstance : Bel w.heap.size w _).out (by first | exact Nat.le_refl _ | omega)); (case aS => first | exact siz w _ | (have := siz w _; omega)); (case aL => omega); intro v6 w6 h6 hb6 hg6 hat6; have p6 := prev_above hb6; have HB6 := Aside0.mk hb6; have HV6 := Aside0.mk h6; clear hb6 h6 hg6 hat6)
          go_roundw
          case rel => exact ⟨_, _, (a :: xs), _, _, ys, _, rfl, rfl, by simp only [List.length_cons, List.length_nil] at *; omega, by simp only [List.length_cons, List.length_nil] at *; omega, HXC, HYD, HZX, HZYD, HIN, by simp only [List.length_append, List.length_cons, List.length_nil] at *; omega, HV6, HB6⟩
          case measure => simp only [lenV, List.length_cons, List.length_nil]; omega
        · subst h0
          have hI := HII.out
          rw [if_neg (by omega), if_neg (by omega), ← List.singleton_append, ← List.append_assoc] at hI
          have HIN : Aside0 ((out ++ [a.f0]) ++ mergeL (pathsK xs) (pathsK ys) = R) := ⟨hI⟩
          clear hI HII
          go_wp2_with fail
          go_still_tail 8, (by kernel_rfl)
          change wpList _ _ _ _ _ wr.drew
          have p2 : Prev wr.drew wr .none := inferInstance
          generalize wr.drew = w2 at p2 ⊢
          go_wp2_with fail
          refine (HCP.out _).mono ?_
          rintro e w3 ⟨rfl, q, os, hb⟩
          have p3 : Prev w3 w2 .none := prev_call (hb ▸ grow_below w2 q os)
          have x3 := (At58 (At_below XQ.out (bel wr w3))).1
          have y3 := (At58 (At_below YQ.out (bel wr w3))).1
          rw [add_zero_] at x3 y3
          clear hb
          go_wp2_with ((with_reducible refine gate_builtin (b := .append) (xs := #[.tmp 34, .tmp 39]) rfl ?_); at_builtin; refine app41 (w0 := w) w.heap.size rfl (.tmp 34) (.tmp 39) rfl (.slice Ao out.length co) out a.f0 rfl ?aX ?aO ?aB ?aS ?aL ?_; (case aX => first | rfl | (simp only [World.size_setCell, size_setRow, World.size_alloc]; rfl)); (case aO => exact rowB HO.out (bel wr _)); (case aB => exact (inferInstance : Bel w.heap.size w _).out (by first | exact Nat.le_refl _ | omega)); (case aS => first | exact siz w _ | (have := siz w _; omega)); (case aL => omega); intro v6 w6 h6 hb6 hg6 hat6; have p6 := prev_above hb6; have HB6 := Aside0.mk hb6; have HV6 := Aside0.mk h6; clear hb6 h6 hg6 hat6)
          go_roundw
          case rel => exact ⟨_, _, xs, _, _, ys, _, rfl, rfl, by simp only [List.length_cons, List.length_nil] at *; omega, by simp only [List.length_cons, List.length_nil] at *; omega, HXD, HYD, HZXD, HZYD, HIN, by simp only [List.length_append, List.length_cons, List.length_nil] at *; omega, HV6, HB6⟩
          case measure => simp only [lenV, List.length_cons, List.length_nil]; omega
end Go.Proofs.YtjllbkeobibnkaaDoor.Q

namespace Go.Proofs.YtjllbkeobibnkaaDoor.Q
open Go Go.Proofs Go.Shelf Go.RowKit Go.Lib Go.Sort Go.Proofs.YtjllbkeobibnkaaDoorP Go.Proofs.YtjllbkeobibnkaaDoorK Go.Proofs.YtjllbkeobibnkaaDoorW.PrintWords Go.Proofs.YtjllbkeobibnkaaDoorW.PrintLast Go.Proofs.YtjllbkeobibnkaaDoorW.PrintMore
set_option linter.unusedSimpArgs false
set_option linter.unusedVariables false
/-- What is ahead of a path. -/
def ltK (p : ByteArray) (k : S58) : Bool := decide (pcmp k.f0 p < 0)
def posK (p : ByteArray) (l : List S58) : Nat := (l.takeWhile (ltK p)).length
def hitK (p : ByteArray) (l : List S58) : Bool := match l[posK p l]? with
  | some k => decide (pcmp k.f0 p = 0)
  | none => false
/-- Rising. -/
def risK (l : List S58) : Prop := l.Pairwise fun x y => pcmp x.f0 y.f0 < 0
theorem posK_le (p : ByteArray) (l : List S58) : posK p l ≤ l.length := (List.takeWhile_sublist _).length_le
theorem posK_iff {p : ByteArray} {l : List S58} (h : risK l) (j : Nat) (hj : j < l.length) : pcmp l[j].f0 p < 0 ↔ j < posK p l := by
  induction l generalizing j with
  | nil => simp at hj
  | cons k l ih =>
    have h1 := List.pairwise_cons.1 h
    unfold posK
    rw [List.takeWhile_cons]
    by_cases hk : pcmp k.f0 p < 0
    · have e : ltK p k = true := decide_eq_true hk
      rw [if_pos e, List.length_cons]
      cases j with
      | zero => simp [hk]
      | succ j =>
        have := ih h1.2 j (by simpa using hj)
        rw [List.getElem_cons_succ, this]
        show _ ↔ j + 1 < posK p l + 1
        omega
    · have e : ltK p k = false := decide_eq_false hk
      rw [if_neg (by rw [e]; decide)]
      refine ⟨fun hc => ?_, fun hc => absurd hc (by simp)⟩
      cases j with
      | zero => exact absurd hc hk
      | succ j =>
        have hm := h1.1 _ (List.getElem_mem (by simpa using hj : j < l.length))
        rw [List.getElem_cons_succ] at hc
        exact absurd (good_path.trans _ _ _ hm hc) hk
attribute [local go_sem] A51_size A51_0 A51_1 A51_g0 A51_g1 A58_size A58_0 A58_1 A58_2 A58_g0 A58_g1 A58_g2 cell_held frozen_held
attribute [local go_sem] zero51 zero58 zero65
attribute [local go_sem ↓ high] lvx_of
attribute [local go_sem] lv_sc lv24 lv33
attribute [local go_sem ↓ high] lv51 lv51s lv58 lv58a lv65 lv65a lv65l lv65r sc51 sc58 sc65 sc65a sc65l sc65r sc58a
set_option maxRecDepth 100000 in
set_option maxHeartbeats 2000000 in
theorem with1_any (w : World) (k : S58) (p : ByteArray) (hk : k.f0.size ≤ 65536) (hp : p.size ≤ 65536) : Calls Tryd.prog 60 #[.agg (A58 k), .string p] w fun e w' => e = .returned (.int .i64 (pcmp k.f0 p)) ∧ Below w.heap.size w w' := by
  have HC := Aside0.mk (fun W => cmp_any W k.f0 p (by omega) (by omega))
  go_enter Tryd.func60, Tryd.ntmps60
  go_wp2_with fail
  refine (HC.out _).mono ?_
  rintro e w3 ⟨rfl, q, os, hb⟩
  have p3 : Prev w3 _ .none := prev_call (hb ▸ grow_below _ q os)
  clear hb
  go_wp2_with fail
  go_ret
  exact ⟨rfl, bel _ _⟩
set_option maxRecDepth 100000 in
set_option maxHeartbeats 2000000 in
theorem bsf_any (w : World) (A : Option Addr) (c : Nat) (l : List S58) (p : ByteArray) (hC : k58.C w A l.length l) (hs : shortK l = true) (hp : p.size ≤ 65536) (hr : risK l) :
    Calls Tryd.prog 59 #[.slice A l.length c, .string p, .func (.func 60) #[] #[]] w fun e w' => e = .returned (.tuple #[.int .i64 (posK p l : Int), .bool (hitK p l)]) ∧ Below w.heap.size w w' := by
  have eg : ∀ args w, (callFunc 60 args).run Tryd.prog w = .ok (.enter 60 args) w := enters_of Tryd.func60 (by kernel_rfl) rfl
  obtain ⟨hl, hsz⟩ := shortK_open hs
  have HR := Aside0.mk hC
  have HZ := Aside0.mk hsz
  have HW := Aside0.mk (fun W (k : S58) (hk : k.f0.size ≤ 65536) => with1_any W k p hk hp)
  have HI := Aside0.mk (fun j hj => posK_iff (p := p) hr j hj)
  have hpl := posK_le p l
  obtain ⟨P, hP⟩ : ∃ P, posK p l = P := ⟨_, rfl⟩
  have hH : ∃ b, hitK p l = b ∧ (∀ h : P < l.length, b = decide (pcmp l[P].f0 p = 0)) ∧ (¬ P < l.length → b = false) := by
    refine ⟨_, rfl, fun h => ?_, fun h => ?_⟩
    · unfold hitK
      rw [hP, List.getElem?_eq_getElem h]
    · unfold hitK
      rw [hP, List.getElem?_eq_none (by omega)]
  obtain ⟨b, hb, hb1, hb2⟩ := hH
  rw [hb, hP]
  rw [hP] at HI hpl
  have HB1 := Aside0.mk hb1
  have HB2 := Aside0.mk hb2
  clear hC hs hsz hr hP hb hb1 hb2 hp
  go_enter Tryd.func59, Tryd.ntmps59
  go_wp2_with fail
  go_loopw [9, 10] (fun i j wr => ∃ a b : Nat, a ≤ P ∧ P ≤ b ∧ b ≤ l.length ∧ i = .int .i64 (a : Int) ∧ j = .int .i64 (b : Int) ∧ Aside0 (Below w.heap.size w wr)) (fun i j _ => (intOf j).toNat - (intOf i).toNat)
  case atStart => exact ⟨0, l.length, Nat.zero_le _, hpl, Nat.le_refl _, rfl, rfl, ⟨bel _ _⟩⟩
  case round =>
    obtain ⟨a, b', ha, hb, hbl, rfl, rfl, HB⟩ := hrel
    have bw : Bel w.heap.size w wr := ⟨fun _ => HB.out⟩
    by_cases hlt : a < b'
    · obtain ⟨m, hm⟩ : ∃ m, (a + b') / 2 = m := ⟨_, rfl⟩
      have hm2 : ((a : Int) + (b' : Int)) / 2 = (m : Int) := by omega
      have hml : m < l.length := by omega
      have hma : a ≤ m := by omega
      have hmb : m < b' := by omega
      obtain ⟨ad, e, x0⟩ := C58_at HR.out m hml
      subst e
      have hi := HI.out m hml
      have hz := HZ.out _ (List.getElem_mem hml)
      generalize l[m] = x at x0 hi hz
      have HX := Aside0.mk (At_below x0 HB.out)
      have HWX := Aside0.mk (fun W => HW.out W x hz)
      generalize pcmp x.f0 p = z at HWX hi
      have HII := Aside0.mk hi
      clear x0 hi hz
      go_wp2_with (refine seg_load rfl 58 (.tmp 27) rfl HX.out (A58 x) rfl rfl Tryd.underlying58 rfl (by rw [L58_len]; exact info58s) ?_)
      refine (HWX.out _).mono ?_
      rintro e w1 ⟨rfl, hb1⟩
      have p1 := prev_call hb1
      clear hb1
      by_cases hz : z < 0
      · have hi := HII.out.1 hz
        go_wp2_with fail
        go_roundw
        case rel => exact ⟨m + 1, b', by omega, by omega, by omega, by go_num, rfl, ⟨bel _ _⟩⟩
        case measure => simp [intOf]; omega
      · have hi : ¬ m < P := fun h => hz (HII.out.2 h)
        have HIN := Aside0.mk hi
        clear hi
        go_wp2_with fail
        go_roundw
        case rel => exact ⟨a, m, by omega, by have := HIN.out; omega, by omega, rfl, rfl, ⟨bel _ _⟩⟩
        case measure => simp [intOf]; omega
    · obtain rfl : a = P := by omega
      obtain rfl : b' = a := by omega
      by_cases hn : b' < l.length
      · obtain ⟨ad, e, x0⟩ := C58_at HR.out b' hn
        subst e
        have hz := HZ.out _ (List.getElem_mem hn)
        have hb1 := HB1.out hn
        generalize l[b'] = x at x0 hz hb1
        have HX := Aside0.mk (At_below x0 HB.out)
        have HWX := Aside0.mk (fun W => HW.out W x hz)
        generalize pcmp x.f0 p = z at HWX hb1
        have HBB := Aside0.mk hb1
        have hld : (lvx 58 (ad.add (b' * 35))).run Tryd.prog wr = .ok (.agg (A58 x)) wr := run_loadVar_at HX.out Tryd.underlying58 rfl (by rw [L58_len]; exact info58s)
        clear x0 hz hb1
        go_wp2_with fail
        refine (HWX.out _).mono ?_
        rintro e w1 ⟨rfl, hb1⟩
        have p1 := prev_call hb1
        clear hb1
        go_wp2_with fail
        go_ret2
        exact ⟨by rw [HBB.out]; first | rfl | simp, bel _ _⟩
      · have hb2 := HB2.out hn
        subst hb2
        go_wp2_with fail
        go_ret2
        exact ⟨rfl, bel _ _⟩
end Go.Proofs.YtjllbkeobibnkaaDoor.Q

namespace Go.Proofs.YtjllbkeobibnkaaDoor.Q
open Go Go.Proofs Go.Shelf Go.RowKit Go.Proofs.YtjllbkeobibnkaaDoorK Go.Proofs.YtjllbkeobibnkaaDoorW.PrintWords Go.Proofs.YtjllbkeobibnkaaDoorW.PrintLast Go.Proofs.YtjllbkeobibnkaaDoorW.PrintMore
set_option linter.unusedSimpArgs false
set_option linter.unusedVariables false
set_option maxRecDepth 100000 in
theorem grow_nil (w : World) (n : Nat) (hn : n ≤ 1048576) :
    Calls Tryd.prog 83 #[.slice none 0 0, .int .i64 (n : Int)] w fun e w' => ∃ v : Value, e = .returned v ∧ Kd.R k58 58 w' w.heap.size (fun _ => True) v [] ∧ Below w.heap.size w w' := by
  have HB0 := Aside0.mk (Below.refl w.heap.size w)
  by_cases h0 : n = 0
  · subst h0
    go_enter Tryd.func83, Tryd.ntmps83
    go_wp2_with fail
    go_ret
    exact ⟨_, rfl, Kd.R_nil _ _ _ _ _, HB0.out⟩
  · go_enter Tryd.func83, Tryd.ntmps83
    go_wp2_with ((with_reducible refine gate_builtin (b := .append) (xs := #[.tmp 20, .tmp 21]) rfl ?_); go_loud (at_builtin; refine Kd.R_append_zeros k58 (w0 := w) w.heap.size rfl (.tmp 20) (.tmp 21) 22 3 58 (.agg (A58 z58)) 64 rfl Tryd.underlying22 Tryd.underlying3 info58b (A58_size z58) (by decide) (by decide) (.slice none 0 0) [] z58 (kx := .i64) (n : Int) (fun _ => True) rfl rfl ?hz (fun _ _ => trivial) (Kd.R_nil _ _ _ _ _) (by omega) HB0.out (Nat.le_refl _) (by simp; omega) ?_; (case hz => exact (rfl : L58 z58 = L58 z58)); intro v1 w1 h1 hb1 hg1 hat1; obtain ⟨ad, c, rfl⟩ := Kd.R_slice1 h1 (by simp; omega); have H1 := Aside0.mk h1; have HB1 := Aside0.mk hb1; clear h1 hb1 hg1 hat1))
    go_ret
    exact ⟨_, rfl, by have := Kd.R_take H1.out (Nat.zero_le _); simpa using this, HB1.out⟩
theorem flat_take (ls : List (List S58)) (k : Nat) (h : k < ls.length) : (ls.take (k + 1)).flatten = (ls.take k).flatten ++ ls[k] := by
  rw [List.take_succ_eq_append_getElem h, List.flatten_append]
  simp
theorem flat_le (ls : List (List S58)) (k : Nat) : (ls.take k).flatten.length ≤ ls.flatten.length := by
  conv => rhs; rw [← List.take_append_drop k ls, List.flatten_append, List.length_append]
  omega
set_option maxRecDepth 100000 in
theorem concat_any (w : World) (b c : Nat) (ls : List (List S58)) (hl : ls.flatten.length ≤ 1048576) (hll : ls.length ≤ 1048576)
    (hc : ∀ j (h : j < ls.length), ∃ A' c', w.cell? ⟨b, j, none⟩ = some (.slice A' ls[j].length c') ∧ Kd.C k58 w A' ls[j].length ls[j]) :
    Calls Tryd.prog 62 #[.slice (some ⟨b, 0, none⟩) ls.length c] w fun e w' => ∃ v : Value, e = .returned v ∧ Kd.R k58 58 w' w.heap.size (fun _ => True) v ls.flatten ∧ Below w.heap.size w w' := by
  have HC := Aside0.mk hc
  clear hc
  have HB0 := Aside0.mk (Below.refl w.heap.size w)
  have hG := fun W n hn => grow_nil W n hn
  have HG := Aside0.mk hG
  clear hG
  go_enter Tryd.func62, Tryd.ntmps62
  go_wp2_with fail
  go_loopw [3, 11] (fun s i wr => ∃ j : Nat, j ≤ ls.length ∧ i = .int .i64 (j : Int) ∧ s = .int .i64 (((ls.take j).flatten.length : Nat) : Int) ∧ wr = w) (fun s i _ => ls.length - (intOf i).toNat)
  case atStart => exact ⟨0, Nat.zero_le _, rfl, rfl, rfl⟩
  case round =>
    obtain ⟨j, hj, rfl, rfl, hw⟩ := hrel
    obtain rfl : w = wr := hw.symm
    by_cases hlt : j < ls.length
    · obtain ⟨A', c', x0, hr⟩ := HC.out j hlt
      have h1 := flat_take ls j hlt
      have h2 := flat_le ls (j + 1)
      rw [h1, List.length_append] at h2
      have H1 := Aside0.mk h1
      clear h1
      generalize hq : (ls.take j).flatten.length = q at h2
      have h3 : ((ls.take (j + 1)).flatten.length : Nat) = q + ls[j].length := by rw [H1.out, List.length_append, hq]
      have H3 := Aside0.mk h3
      clear h3 hq H1
      generalize ls[j].length = m at x0 h2 H3
      go_wp2_with fail
      go_roundw
      case rel => exact ⟨j + 1, by omega, by go_num, by rw [H3.out]; go_num, trivial⟩
      case measure => simp [intOf]; omega
    · obtain rfl : j = ls.length := by omega
      have h2 := flat_le ls ls.length
      generalize hq : (ls.take ls.length).flatten.length = q at h2
      clear hq
      go_wp2_with fail
      refine (HG.out _ q (by omega)).mono ?_
      rintro e w2 ⟨v, rfl, hv, hb⟩
      have HV := Aside0.mk hv
      have HB := Aside0.mk hb
      clear hv hb
      go_wp2_with fail
      go_loopw [6, 27] (fun u i w3 => ∃ j : Nat, j ≤ ls.length ∧ i = .int .i64 (j : Int) ∧ Aside0 (Kd.R k58 58 w3 w.heap.size (fun _ => True) u (ls.take j).flatten) ∧ Aside0 (Below w.heap.size w w3)) (fun u i _ => ls.length - (intOf i).toNat)
      case atStart => exact ⟨0, Nat.zero_le _, rfl, HV, HB⟩
      case round =>
        obtain ⟨j, hj, rfl, HU, HB3⟩ := hrel
        by_cases hlt : j < ls.length
        · obtain ⟨A', c', x0, hr⟩ := HC.out j hlt
          replace x0 := (HB3.out.cell (World.block_lt_of_cell? w _ x0)).trans x0
          have hr := Kd.C_below hr HB3.out
          have h1 := flat_take ls j hlt
          have h2 := flat_le ls (j + 1)
          rw [h1, List.length_append] at h2
          have H1 := Aside0.mk h1
          clear h1
          have HR := Aside0.mk hr
          clear hr
          generalize ls[j] = y at x0 h2 H1 HR
          generalize (ls.take j).flatten = xs at HU h2 H1
          obtain ⟨A3, c3, rfl⟩ := Kd.R_slice HU.out
          go_wp2_with ((with_reducible refine gate_builtin (b := .append) (xs := #[.tmp 31, .tmp 32]) rfl ?_); at_builtin; refine Kd.R_append_rows k58 (w0 := w) w.heap.size rfl (.tmp 31) (.tmp 32) 22 58 (.agg (A58 z58)) 64 rfl Tryd.underlying22 info58b (A58_size z58) (by decide) (by decide) _ _ y _ _ _ (fun _ => True) (fun _ => False) rfl rfl HU.out HR.out (fun x cs h => h) (fun _ h => h.elim) (fun _ _ => trivial) HB3.out (by have := HB3.out.size; omega) (by omega) ?_; intro v1 w4 h4 hb4 hg4 hat4; obtain ⟨A4, c4, rfl⟩ := Kd.R_slice h4; have H4 := Aside0.mk h4; have HB4 := Aside0.mk hb4; clear h4 hb4 hg4 hat4)
          go_roundw
          case rel => exact ⟨j + 1, by omega, by go_num, ⟨by rw [H1.out]; have h4 := H4.out; rw [List.length_append] at h4; exact h4⟩, HB4⟩
          case measure => simp [intOf]; omega
        · obtain rfl : j = ls.length := by omega
          have hu := HU.out
          rw [List.take_length] at hu
          have HU' := Aside0.mk hu
          clear hu HU
          go_wp2_with fail
          go_ret
          exact ⟨_, rfl, HU'.out, HB3.out⟩
end Go.Proofs.YtjllbkeobibnkaaDoor.Q
