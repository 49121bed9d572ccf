/- Parts of the proof: PK, HCut, HSplit, HLib, HKind, HBelow, KA, HCmp, PScope, PL, KG, Q13. -/
import Derived.Test.YtjllbkeobibnkaaDoorZO1
import Derived.Lib.IndexBytes
import Derived.Lib.IndexMore
import Derived.WalkKit
import Derived.Shelf.Strings.Cut
import Derived.IntWalk
import Derived.Shelf.Strings.Split
import Derived.Shelf.Small.Strs
import Derived.Shelf.Strings.Search1
import Derived.Shelf.Strings.LastIndex
import Derived.Shelf.SlicesG.Cmp
import Derived.Test.YtjllbkeobibnkaaDoorProg
import Derived.Sort.Grow
import Derived.RangeFuncNested
import Derived.RangeFuncBound
import Derived.RangeFuncCalls
import Derived.RangeFuncLeaves
import Derived.Shelf.Abstract
import Derived.Shelf.RegionOpen
import Derived.OwnWalkIn
import Derived.TacticsInMore
import Derived.LoopNIn
import Derived.LoopIn
import Derived.Maps.AppendAt
import Derived.Test.YtjllbkeobibnkaaDoorWTab
import Derived.Test.YtjllbkeobibnkaaDoorWMore
import Derived.Shelf.SlSortCmp.WholeK
import Derived.Test.YtjllbkeobibnkaaDoorWWords
set_option linter.unusedVariables false
set_option linter.unusedSimpArgs false
namespace Go.Proofs.YtjllbkeobibnkaaDoorP
open Go Go.Lib
def signB (c : UInt8) : Bool := (decide (97 ≤ c) && decide (c ≤ 122)) || ((decide (48 ≤ c) && decide (c ≤ 57)) || (c == 95 || (c == 45 || c == 126)))
def signsL : List UInt8 := [97, 98, 99, 100, 101, 102, 103, 104, 105, 106, 107, 108, 109, 110, 111, 112, 113, 114, 115, 116, 117, 118, 119, 120, 121, 122, 48, 49, 50, 51, 52, 53, 54, 55, 56, 57, 95, 45, 126]
theorem signs_all : (List.range 256).all (fun n => decide (indexByte signsL (UInt8.ofNat n) < 0) == !signB (UInt8.ofNat n)) = true := by kernel_rfl
theorem signs_index (c : UInt8) : decide (indexByte signsL c < 0) = !signB c := by
  have h := List.all_eq_true.1 signs_all c.toNat (List.mem_range.2 c.toNat_lt)
  rw [UInt8.ofNat_toNat, beq_iff_eq] at h
  exact h
def plainL (s : List UInt8) : Bool := s.all signB && !s.isEmpty
/-- A name's kind; 0: it is none. -/
def kindL (s : List UInt8) : Int :=
  if 24 < s.length then 0 else if plainL (cut s [46]).1 = false then 0 else if (cut s [46]).2.2 = false then 1 else if plainL (cut s [46]).2.1 = true then 2 else 0
/-- The last one's kind, if all are names, and only the last one is a file's. -/
def kindsL : List (List UInt8) → Int → Option Int
  | [], k => some k
  | n :: l, _ => if kindL n = 0 then none else if kindL n = 2 ∧ l ≠ [] then none else kindsL l (kindL n)
def kindS (p : ByteArray) : Int × Int :=
  if 96 < p.size then (0, 3) else if p.size = 0 then (1, 0) else match kindsL (names p.data.toList) 0 with
    | none => (0, 18)
    | some k => if 8 < (names p.data.toList).length then (0, 7) else (k, 0)
theorem kindL_cases (s : List UInt8) : kindL s = 0 ∨ kindL s = 1 ∨ kindL s = 2 := by
  unfold kindL
  split
  · exact .inl rfl
  · split
    · exact .inl rfl
    · split
      · exact .inr (.inl rfl)
      · split
        · exact .inr (.inr rfl)
        · exact .inl rfl
end Go.Proofs.YtjllbkeobibnkaaDoorP

namespace Go.Proofs.YtjllbkeobibnkaaDoorP
open Go Go.Proofs Go.Shelf Go.RowKit Go.Lib
variable {P : Program} {ρ : Ren}
set_option maxHeartbeats 2000000 in
set_option maxRecDepth 100000 in
theorem lite_cut_one (L : Lays.n220 P ρ) (s : ByteArray) (b : UInt8) (w : World) (hs : s.size < 4294967281) :
    Calls P (ρ.f 220) #[.string s, .string ⟨#[b]⟩] w fun e w' => e = .returned (.tuple #[.string ⟨(Lib.cut s.data.toList [b]).1.toArray⟩, .string ⟨(Lib.cut s.data.toList [b]).2.1.toArray⟩, .bool (Lib.cut s.data.toList [b]).2.2]) ∧ ∃ n, w' = w.drewN n := by
  have e0 : (⟨#[b]⟩ : ByteArray).data.toList = [b] := rfl
  rcases Lib.indexB_cases s ⟨#[b]⟩ with hix | ⟨i, hix, hroom⟩
  · obtain ⟨e1, e2, e3⟩ := Lib.cutB_miss s ⟨#[b]⟩ hix
    rw [e0] at e1 e2 e3
    rw [e1, e2, e3]
    have t3 := L.t3; have t4 := L.t4; have t9 := L.t9
    have a3 : ∀ w, (isAgg (ρ.t 3)).run P w = .ok false w := run_isAgg_plain L.t3 rfl; have a4 : ∀ w, (isAgg (ρ.t 4)).run P w = .ok false w := run_isAgg_plain L.t4 rfl; have a9 : ∀ w, (isAgg (ρ.t 9)).run P w = .ok false w := run_isAgg_plain L.t9 rfl
    have e219 : ∀ args w, (callFunc (ρ.f 219) args).run P w = .ok (.enter (ρ.f 219) args) w := enters_of L.f219 (by kernel_rfl) rfl
    have mixed := L.mixed; have z3 := L.z3; have v3 := L.v3; have z4 := L.z4; have v4 := L.v4; have z9 := L.z9; have v9 := L.v9
    have hib : Lib.indexByte s.data.toList b = -1 := by rw [← Lib.index_one]; exact hix
    go_enter L.f220, Body.n220_ntmps ρ
    go_wp2_with (go_at_fn (ρ.f 219); refine (Any.stringslite_Index_one { L with } _ _ _).mono ?_; rintro e w' ⟨rfl, rfl⟩; rw [hib])
    go_ret3
    exact ⟨rfl, 0, rfl⟩
  · obtain ⟨e1, e2, e3⟩ := Lib.cutB_hit s ⟨#[b]⟩ i hix
    have hs1 : (⟨#[b]⟩ : ByteArray).size = 1 := rfl
    rw [e0] at e1 e2 e3
    rw [e1, e2, e3]
    rw [hs1] at hroom
    have hib : Lib.indexByte s.data.toList b = (i : Int) := by rw [← Lib.index_one]; exact hix
    have c1 : (0 : Int) ≤ ↑i := by omega
    have c2 : (↑i : Int) ≤ ↑s.size := by omega
    have c3 : (0 : Int) ≤ ↑i + 1 := by omega
    have c4 : (↑i + 1 : Int) ≤ ↑s.size := by omega
    have c5 : IntKind.i64.wrap ((i : Int) + 1) = (i : Int) + 1 := IntWalk.i64_in _ (by omega)
    have t3 := L.t3; have t4 := L.t4; have t9 := L.t9
    have a3 : ∀ w, (isAgg (ρ.t 3)).run P w = .ok false w := run_isAgg_plain L.t3 rfl; have a4 : ∀ w, (isAgg (ρ.t 4)).run P w = .ok false w := run_isAgg_plain L.t4 rfl; have a9 : ∀ w, (isAgg (ρ.t 9)).run P w = .ok false w := run_isAgg_plain L.t9 rfl
    have e219 : ∀ args w, (callFunc (ρ.f 219) args).run P w = .ok (.enter (ρ.f 219) args) w := enters_of L.f219 (by kernel_rfl) rfl
    have mixed := L.mixed; have z3 := L.z3; have v3 := L.v3; have z4 := L.z4; have v4 := L.v4; have z9 := L.z9; have v9 := L.v9
    go_enter L.f220, Body.n220_ntmps ρ
    go_wp2_with (go_at_fn (ρ.f 219); refine (Any.stringslite_Index_one { L with } _ _ _).mono ?_; rintro e w' ⟨rfl, rfl⟩; rw [hib])
    go_region_o
    go_wp2
    go_ret3
    exact ⟨rfl, 1, rfl⟩
set_option maxHeartbeats 1000000 in
theorem cut_one (L : Lays.n145 P ρ) (s : ByteArray) (b : UInt8) (w : World) (hs : s.size < 4294967281) :
    Calls P (ρ.f 145) #[.string s, .string ⟨#[b]⟩] w fun e w' => e = .returned (.tuple #[.string ⟨(Lib.cut s.data.toList [b]).1.toArray⟩, .string ⟨(Lib.cut s.data.toList [b]).2.1.toArray⟩, .bool (Lib.cut s.data.toList [b]).2.2]) ∧ ∃ n, w' = w.drewN n := by
  have t4 := L.t4; have t9 := L.t9; have t59 := L.t59
  have a4 : ∀ w, (isAgg (ρ.t 4)).run P w = .ok false w := run_isAgg_plain L.t4 rfl; have a9 : ∀ w, (isAgg (ρ.t 9)).run P w = .ok false w := run_isAgg_plain L.t9 rfl; have a59 : ∀ w, (isAgg (ρ.t 59)).run P w = .ok false w := run_isAgg_plain L.t59 rfl
  have e220 : ∀ args w, (callFunc (ρ.f 220) args).run P w = .ok (.enter (ρ.f 220) args) w := enters_of L.f220 (by kernel_rfl) rfl
  have mixed := L.mixed; have z4 := L.z4; have v4 := L.v4; have z9 := L.z9; have v9 := L.v9; have z59 := L.z59; have v59 := L.v59
  go_enter L.f145, Body.n145_ntmps ρ
  go_wp2_with (go_at_fn (ρ.f 220); refine (lite_cut_one { L with } _ _ _ hs).mono ?_; rintro e w' ⟨rfl, n, rfl⟩)
  go_ret3
  exact ⟨rfl, n, rfl⟩
end Go.Proofs.YtjllbkeobibnkaaDoorP

namespace Go.Proofs.YtjllbkeobibnkaaDoorP
open Go Go.Proofs Go.Shelf Go.RowKit Go.Lib
variable {P : Program} {ρ : Ren}
set_option maxHeartbeats 1000000 in
theorem split_one (L : Lays.n146 P ρ) (hi9 : (P.info? (ρ.t 9)).map (fun i => (i.zero, i.size, i.bytes)) = some (some (.string ByteArray.empty), 1, 16)) (s : ByteArray) (b : UInt8) (w : World) (hs : s.size < 4294967281) :
    Calls P (ρ.f 146) #[.string s, .string ⟨#[b]⟩] w fun e w' =>
      e = .returned (.slice (some ⟨w.heap.size, 0, none⟩) (Lib.countB s ⟨#[b]⟩ + 1) (Lib.countB s ⟨#[b]⟩ + 1)) ∧ w' = w.alloc (.cells ((Lib.splitB ⟨#[b]⟩ 0 (Lib.countB s ⟨#[b]⟩) s).map Value.string).toArray (ρ.t 9)) := by
  have h1 : 1 ≤ (⟨#[b]⟩ : ByteArray).size := Nat.le_refl 1
  have hle := Lib.countB_le ⟨#[b]⟩ h1 s.size s (Nat.le_refl _)
  have hlen := Lib.splitB_all ⟨#[b]⟩ h1 0 _ s rfl
  have hcnt : Calls P (ρ.f 138) #[.string s, .string ⟨#[b]⟩] w fun e w' => e = .returned (.int .i64 (Lib.countB s ⟨#[b]⟩)) ∧ w' = w := by
    refine (Any.strings_Count_one { L with } s b w).mono fun e w' ⟨he, hw⟩ => ⟨?_, hw⟩
    rw [he]
    show _ = Ending.returned (Value.int .i64 ((Lib.count s.data.toList [b] : Nat) : Int))
    rw [Lib.count_one]
    rfl
  have c := Any.strings_genSplit_core { L with } hi9 s ⟨#[b]⟩ 0 (-1) (Lib.countB s ⟨#[b]⟩ + 1) w hs h1 (Nat.zero_le _)
    (fun x c _ => (Any.strings_Index_one { L with } x b _).mono (fun e w' h => ⟨by rw [h.1]; show _ = Ending.returned (Value.int .i64 (Lib.index x.data.toList [b])); rw [Lib.index_one], h.2⟩)) hcnt (by decide) (by decide) (by rw [if_pos (by decide)]; omega)
  rw [Nat.add_sub_cancel, hlen] at c
  have e2 : Lib.cellsOf (Lib.splitB ⟨#[b]⟩ 0 (Lib.countB s ⟨#[b]⟩) s) (Lib.countB s ⟨#[b]⟩ + 1) = ((Lib.splitB ⟨#[b]⟩ 0 (Lib.countB s ⟨#[b]⟩) s).map Value.string).toArray := by rw [← hlen]; exact Lib.cellsOf_full _
  rw [e2] at c
  have t3 := L.t3; have t9 := L.t9; have t31 := L.t31
  have a3 := L.a3; have a9 := L.a9; have a31 := L.a31
  have z3 := L.z3; have v3 := L.v3; have z9 := L.z9; have v9 := L.v9; have z31 := L.z31; have v31 := L.v31
  have e221 : ∀ args w, (callFunc (ρ.f 221) args).run P w = .ok (.enter (ρ.f 221) args) w := enters_of L.f221 (by kernel_rfl) rfl
  go_enter L.f146, Body.n146_ntmps ρ
  go_wp2_with (go_at_fn (ρ.f 221); refine c.mono ?_; rintro e w' ⟨rfl, hw⟩; rw [hw])
  go_ret
  exact ⟨rfl, rfl⟩
end Go.Proofs.YtjllbkeobibnkaaDoorP

namespace Go.Proofs.YtjllbkeobibnkaaDoor.Q
open Go Go.Proofs Go.Shelf
def laySplit_ren : Go.Shelf.Ren := ⟨fun | 146 => 71 | 221 => 86 | 268 => 96 | 138 => 97 | 143 => 98 | 195 => 104 | 197 => 105 | 218 => 106 | 219 => 107 | 260 => 109 | 217 => 108 | 225 => 110 | 224 => 111 | 267 => 112 | 266 => 113 | 314 => 114 | n => n, fun | 9 => 9 | 31 => 41 | 3 => 3 | 4 => 4 | 0 => 0 | 105 => 127 | 21 => 21 | 5 => 5 | 46 => 111 | 119 => 130 | 139 => 133 | 138 => 132 | 146 => 135 | 51 => 134 | n => n, fun | 1 => 0 | 3 => 1 | 4 => 2 | n => n⟩
set_option maxRecDepth 100000 in
theorem laySplit : Go.Proofs.Lays.n146 Tryd.prog laySplit_ren := {
  mixed := by kernel_rfl,
  f138 := Tryd.func97.trans (congrArg some (by kernel_rfl)),
  f143 := Tryd.func98.trans (congrArg some (by kernel_rfl)),
  f146 := Tryd.func71.trans (congrArg some (by kernel_rfl)),
  f195 := Tryd.func104.trans (congrArg some (by kernel_rfl)),
  f197 := Tryd.func105.trans (congrArg some (by kernel_rfl)),
  f217 := Tryd.func108.trans (congrArg some (by kernel_rfl)),
  f218 := Tryd.func106.trans (congrArg some (by kernel_rfl)),
  f219 := Tryd.func107.trans (congrArg some (by kernel_rfl)),
  f221 := Tryd.func86.trans (congrArg some (by kernel_rfl)),
  f224 := Tryd.func111.trans (congrArg some (by kernel_rfl)),
  f225 := Tryd.func110.trans (congrArg some (by kernel_rfl)),
  f260 := Tryd.func109.trans (congrArg some (by kernel_rfl)),
  f266 := Tryd.func113.trans (congrArg some (by kernel_rfl)),
  f267 := Tryd.func112.trans (congrArg some (by kernel_rfl)),
  f268 := Tryd.func96.trans (congrArg some (by kernel_rfl)),
  f314 := Tryd.func114.trans (congrArg some (by kernel_rfl)),
  t0 := Tryd.underlying0,
  a0 := Tryd.isAgg0,
  z0 := Tryd.sizeOf0,
  v0 := Tryd.zeroValue0,
  t3 := Tryd.underlying3,
  a3 := Tryd.isAgg3,
  z3 := Tryd.sizeOf3,
  v3 := Tryd.zeroValue3,
  t4 := Tryd.underlying4,
  a4 := Tryd.isAgg4,
  z4 := Tryd.sizeOf4,
  v4 := Tryd.zeroValue4,
  t5 := Tryd.underlying5,
  a5 := Tryd.isAgg5,
  z5 := Tryd.sizeOf5,
  v5 := Tryd.zeroValue5,
  t9 := Tryd.underlying9,
  a9 := Tryd.isAgg9,
  z9 := Tryd.sizeOf9,
  v9 := Tryd.zeroValue9,
  t21 := Tryd.underlying21,
  a21 := Tryd.isAgg21,
  z21 := Tryd.sizeOf21,
  v21 := Tryd.zeroValue21,
  t31 := Tryd.underlying41,
  a31 := Tryd.isAgg41,
  z31 := Tryd.sizeOf41,
  v31 := Tryd.zeroValue41,
  t46 := Tryd.underlying111,
  a46 := Tryd.isAgg111,
  z46 := Tryd.sizeOf111,
  v46 := Tryd.zeroValue111,
  t51 := Tryd.underlying134,
  a51 := Tryd.isAgg134,
  z51 := Tryd.sizeOf134,
  v51 := Tryd.zeroValue134,
  t105 := Tryd.underlying127,
  a105 := Tryd.isAgg127,
  z105 := Tryd.sizeOf127,
  v105 := Tryd.zeroValue127,
  t119 := Tryd.underlying130,
  a119 := Tryd.isAgg130,
  z119 := Tryd.sizeOf130,
  t138 := Tryd.underlying132,
  a138 := Tryd.isAgg132,
  z138 := Tryd.sizeOf132,
  v138 := Tryd.zeroValue132,
  t139 := Tryd.underlying133,
  a139 := Tryd.isAgg133,
  z139 := Tryd.sizeOf133,
  v139 := Tryd.zeroValue133,
  t146 := Tryd.underlying135,
  a146 := Tryd.isAgg135,
  z146 := Tryd.sizeOf135,
  v146 := Tryd.zeroValue135,
  g1 := by kernel_rfl,
  g3 := by kernel_rfl,
  g4 := by kernel_rfl }
def layStrCmp_ren : Go.Shelf.Ren := ⟨fun | 106 => 81 | 213 => 93 | 265 => 103 | n => n, fun | 9 => 9 | 3 => 3 | n => n, fun | n => n⟩
set_option maxRecDepth 100000 in
theorem layStrCmp : Go.Proofs.Lays.n106 Tryd.prog layStrCmp_ren := {
  mixed := by kernel_rfl,
  f106 := Tryd.func81.trans (congrArg some (by kernel_rfl)),
  f213 := Tryd.func93.trans (congrArg some (by kernel_rfl)),
  f265 := Tryd.func103.trans (congrArg some (by kernel_rfl)),
  t3 := Tryd.underlying3,
  a3 := Tryd.isAgg3,
  z3 := Tryd.sizeOf3,
  v3 := Tryd.zeroValue3,
  t9 := Tryd.underlying9,
  a9 := Tryd.isAgg9,
  z9 := Tryd.sizeOf9,
  v9 := Tryd.zeroValue9 }
def layCut_ren : Go.Shelf.Ren := ⟨fun | 145 => 87 | 220 => 99 | 219 => 107 | 217 => 108 | 225 => 110 | 224 => 111 | 267 => 112 | 266 => 113 | 314 => 114 | n => n, fun | 9 => 9 | 4 => 4 | 59 => 116 | 3 => 3 | 5 => 5 | 46 => 111 | 146 => 135 | 51 => 134 | n => n, fun | 1 => 0 | n => n⟩
set_option maxRecDepth 100000 in
theorem layCut : Go.Proofs.Lays.n145 Tryd.prog layCut_ren := {
  mixed := by kernel_rfl,
  f145 := Tryd.func87.trans (congrArg some (by kernel_rfl)),
  f217 := Tryd.func108.trans (congrArg some (by kernel_rfl)),
  f219 := Tryd.func107.trans (congrArg some (by kernel_rfl)),
  f220 := Tryd.func99.trans (congrArg some (by kernel_rfl)),
  f224 := Tryd.func111.trans (congrArg some (by kernel_rfl)),
  f225 := Tryd.func110.trans (congrArg some (by kernel_rfl)),
  f266 := Tryd.func113.trans (congrArg some (by kernel_rfl)),
  f267 := Tryd.func112.trans (congrArg some (by kernel_rfl)),
  f314 := Tryd.func114.trans (congrArg some (by kernel_rfl)),
  t3 := Tryd.underlying3,
  a3 := Tryd.isAgg3,
  z3 := Tryd.sizeOf3,
  v3 := Tryd.zeroValue3,
  t4 := Tryd.underlying4,
  a4 := Tryd.isAgg4,
  z4 := Tryd.sizeOf4,
  v4 := Tryd.zeroValue4,
  t5 := Tryd.underlying5,
  a5 := Tryd.isAgg5,
  z5 := Tryd.sizeOf5,
  v5 := Tryd.zeroValue5,
  t9 := Tryd.underlying9,
  a9 := Tryd.isAgg9,
  z9 := Tryd.sizeOf9,
  v9 := Tryd.zeroValue9,
  t46 := Tryd.underlying111,
  a46 := Tryd.isAgg111,
  z46 := Tryd.sizeOf111,
  v46 := Tryd.zeroValue111,
  t51 := Tryd.underlying134,
  a51 := Tryd.isAgg134,
  z51 := Tryd.sizeOf134,
  v51 := Tryd.zeroValue134,
  t59 := Tryd.underlying116,
  a59 := Tryd.isAgg116,
  z59 := Tryd.sizeOf116,
  v59 := Tryd.zeroValue116,
  t146 := Tryd.underlying135,
  a146 := Tryd.isAgg135,
  z146 := Tryd.sizeOf135,
  v146 := Tryd.zeroValue135,
  g1 := by kernel_rfl }
def layIndexByte_ren : Go.Shelf.Ren := ⟨fun | 137 => 100 | 217 => 108 | 266 => 113 | n => n, fun | 9 => 9 | 5 => 5 | 3 => 3 | n => n, fun | n => n⟩
set_option maxRecDepth 100000 in
theorem layIndexByte : Go.Proofs.Lays.n137 Tryd.prog layIndexByte_ren := {
  mixed := by kernel_rfl,
  f137 := Tryd.func100.trans (congrArg some (by kernel_rfl)),
  f217 := Tryd.func108.trans (congrArg some (by kernel_rfl)),
  f266 := Tryd.func113.trans (congrArg some (by kernel_rfl)),
  t3 := Tryd.underlying3,
  a3 := Tryd.isAgg3,
  z3 := Tryd.sizeOf3,
  v3 := Tryd.zeroValue3,
  t5 := Tryd.underlying5,
  a5 := Tryd.isAgg5,
  z5 := Tryd.sizeOf5,
  v5 := Tryd.zeroValue5,
  t9 := Tryd.underlying9,
  a9 := Tryd.isAgg9,
  z9 := Tryd.sizeOf9,
  v9 := Tryd.zeroValue9 }
def layLastIdx_ren : Go.Shelf.Ren := ⟨fun | 149 => 76 | 222 => 90 | n => n, fun | 9 => 9 | 5 => 5 | 3 => 3 | 4 => 4 | n => n, fun | n => n⟩
set_option maxRecDepth 100000 in
theorem layLastIdx : Go.Proofs.Lays.n149 Tryd.prog layLastIdx_ren := {
  mixed := by kernel_rfl,
  f149 := Tryd.func76.trans (congrArg some (by kernel_rfl)),
  f222 := Tryd.func90.trans (congrArg some (by kernel_rfl)),
  t3 := Tryd.underlying3,
  a3 := Tryd.isAgg3,
  z3 := Tryd.sizeOf3,
  v3 := Tryd.zeroValue3,
  t4 := Tryd.underlying4,
  a4 := Tryd.isAgg4,
  z4 := Tryd.sizeOf4,
  v4 := Tryd.zeroValue4,
  t5 := Tryd.underlying5,
  a5 := Tryd.isAgg5,
  z5 := Tryd.sizeOf5,
  v5 := Tryd.zeroValue5,
  t9 := Tryd.underlying9,
  a9 := Tryd.isAgg9,
  z9 := Tryd.sizeOf9,
  v9 := Tryd.zeroValue9 }
def layIntCmp_ren : Go.Shelf.Ren := ⟨fun | 5 => 82 | 7 => 94 | n => n, fun | 22 => 3 | 3 => 3 | 4 => 4 | n => n, fun | n => n⟩
set_option maxRecDepth 100000 in
theorem layIntCmp : Go.Proofs.SlLaysC2.n5 Tryd.prog layIntCmp_ren := {
  mixed := by kernel_rfl,
  f5 := ⟨Tryd.f82.name, by decide, Tryd.func82.trans (congrArg some (by kernel_rfl))⟩,
  f7 := ⟨Tryd.f94.name, by decide, Tryd.func94.trans (congrArg some (by kernel_rfl))⟩,
  t3 := Tryd.underlying3,
  a3 := Tryd.isAgg3,
  z3 := Tryd.sizeOf3,
  v3 := Tryd.zeroValue3,
  t4 := Tryd.underlying4,
  a4 := Tryd.isAgg4,
  z4 := Tryd.sizeOf4,
  v4 := Tryd.zeroValue4,
  t22 := Tryd.underlying3,
  a22 := Tryd.isAgg3,
  z22 := Tryd.sizeOf3,
  v22 := Tryd.zeroValue3 }
end Go.Proofs.YtjllbkeobibnkaaDoor.Q

namespace Go.Proofs.YtjllbkeobibnkaaDoor.Q
open Go Go.Proofs Go.Shelf Go.RowKit Go.Lib Go.Sort Go.Proofs.YtjllbkeobibnkaaDoorP Go.Proofs.YtjllbkeobibnkaaDoorK Go.Proofs.YtjllbkeobibnkaaDoorW.PrintWords Go.Proofs.YtjllbkeobibnkaaDoorW.PrintLast Go.Proofs.YtjllbkeobibnkaaDoorW.PrintMore
set_option linter.unusedSimpArgs false
set_option linter.unusedVariables false
theorem split_c (W : World) (s : ByteArray) (hs : s.size < 4294967281) : Calls Tryd.prog 71 #[.string s, .string ⟨#[47]⟩] W fun e w' => ∃ l : List ByteArray, Aside0 (l.map (·.data.toList) = names s.data.toList) ∧ l.length ≤ 4294967281 ∧ e = .returned (.slice (some ⟨W.heap.size, 0, none⟩) l.length l.length) ∧ w' = W.alloc (.cells (l.map Value.string).toArray 9) := by
  have h := split_one laySplit (by kernel_rfl) s 47 W hs
  have hl := Lib.splitB_all ⟨#[47]⟩ (Nat.le_refl 1) 0 _ s rfl
  have hn : (Lib.splitB ⟨#[47]⟩ 0 (Lib.countB s ⟨#[47]⟩) s).map (·.data.toList) = names s.data.toList := by
    rw [Lib.splitB_data]
    exact split_names s.data.toList
  refine Calls.mono h ?_
  rintro e w' ⟨rfl, rfl⟩
  have hc := Lib.countB_le ⟨#[47]⟩ (Nat.le_refl 1) s.size s (Nat.le_refl _)
  exact ⟨_, ⟨hn⟩, by rw [hl]; omega, by rw [hl], rfl⟩
attribute [local go_sem] cell_held frozen_held
theorem idx_c (W : World) (c : UInt8) : Calls Tryd.prog 100 #[.string ⟨#[97, 98, 99, 100, 101, 102, 103, 104, 105, 106, 107, 108, 109, 110, 111, 112, 113, 114, 115, 116, 117, 118, 119, 120, 121, 122, 48, 49, 50, 51, 52, 53, 54, 55, 56, 57, 95, 45, 126]⟩, .int .u8 (c.toNat : Int)] W fun e w' => e = .returned (.int .i64 (indexByte signsL c)) ∧ w' = W := by
  have h := Any.strings_IndexByte layIndexByte ⟨#[97, 98, 99, 100, 101, 102, 103, 104, 105, 106, 107, 108, 109, 110, 111, 112, 113, 114, 115, 116, 117, 118, 119, 120, 121, 122, 48, 49, 50, 51, 52, 53, 54, 55, 56, 57, 95, 45, 126]⟩ (c.toNat : Int) W
  have e : ((c.toNat : Int).toNat.toUInt8) = c := by simp
  rw [e] at h
  exact h
set_option maxRecDepth 100000 in
set_option maxHeartbeats 1000000 in
theorem plain_any (w : World) (s : ByteArray) (hs : s.size ≤ 65536) : Calls Tryd.prog 88 #[.string s] w fun e w' => e = .returned (.bool (plainL s.data.toList)) ∧ ∃ q, w' = w.drewN q := by
  obtain ⟨r, hr⟩ : ∃ r, plainL s.data.toList = r := ⟨_, rfl⟩
  have HR := Aside0.mk hr
  have HL : s.data.toList.length = s.size := by simp
  have HL := Aside0.mk HL
  rw [hr]
  clear hr
  go_enter Tryd.func88, Tryd.ntmps88
  go_wp2_with fail
  go_loopw [6] (fun i wr => ∃ k q : Nat, k ≤ s.size ∧ i = .int .i64 (k : Int) ∧ Aside0 ((s.data.toList.take k).all signB = true) ∧ Aside0 (wr = w.drewN q)) (fun i _ => s.size - (RowKit.intOf i).toNat)
  case atStart => exact ⟨0, 0, Nat.zero_le _, rfl, ⟨rfl⟩, ⟨rfl⟩⟩
  case round =>
    obtain ⟨k, q, hk, rfl, HA, HW⟩ := hrel
    have hw := HW.out
    subst hw
    clear HW
    by_cases hlt : k < s.size
    · have hsig := signs_index s[k]
      have hic := fun W => idx_c W s[k]
      have htk : Aside0 ((s.data.toList.take (k + 1)).all signB = signB s[k]) := ⟨by
        rw [List.take_succ_eq_append_getElem (by rw [HL.out]; exact hlt), List.all_append, HA.out]
        show (true && List.all [s[k]] signB) = _
        simp⟩
      cases hb : signB s[k] with
      | true =>
        rw [hb] at hsig htk
        have hz := of_decide_eq_false (show decide (indexByte signsL s[k] < 0) = false from hsig)
        generalize indexByte signsL s[k] = z at hic hz
        have HIC := Aside0.mk hic
        clear hic hsig hb
        go_wp2_with fail
        refine (HIC.out _).mono ?_
        rintro e w1 ⟨rfl, rfl⟩
        go_wp2_with fail
        go_roundw
        case rel => exact ⟨k + 1, _, by omega, by go_num, htk, ⟨rfl⟩⟩
        case measure => simp [RowKit.intOf]; omega
      | false =>
        rw [hb] at hsig htk
        have hz := of_decide_eq_true (show decide (indexByte signsL s[k] < 0) = true from hsig)
        generalize indexByte signsL s[k] = z at hic hz
        have HIC := Aside0.mk hic
        clear hic hsig hb
        go_wp2_with fail
        refine (HIC.out _).mono ?_
        rintro e w1 ⟨rfl, rfl⟩
        go_wp2_with fail
        go_ret
        refine ⟨?_, _, rfl⟩
        have h1 : s.data.toList.all signB = false := by
          rw [← List.take_append_drop (k + 1) s.data.toList, List.all_append, htk.out, Bool.false_and]
        have h2 : r = false := by rw [← HR.out]; unfold plainL; rw [h1]; rfl
        rw [h2]
        rfl
    · obtain rfl : k = s.size := by omega
      have h1 := HA.out
      rw [List.take_of_length_le (by rw [HL.out]; exact Nat.le_refl _)] at h1
      have hr2 := HR.out
      unfold plainL at hr2
      rw [h1, Bool.true_and] at hr2
      have HR2 := Aside0.mk hr2
      clear h1 hr2
      go_wp2_with fail
      go_ret
      refine ⟨?_, _, rfl⟩
      rw [← HR2.out]
      show Ending.returned _ = _
      simp [ByteArray.toList_eq]
theorem cut_len (l m : List UInt8) : (cut l m).1.length ≤ l.length ∧ (cut l m).2.1.length ≤ l.length := by
  unfold cut
  split
  · exact ⟨by rw [List.length_take]; omega, by rw [List.length_drop]; omega⟩
  · exact ⟨Nat.le_refl _, Nat.zero_le _⟩
theorem bsize (l : List UInt8) : (⟨l.toArray⟩ : ByteArray).size = l.length := rfl
set_option maxRecDepth 100000 in
set_option maxHeartbeats 1000000 in
theorem kind_any (w : World) (s : ByteArray) (hs : s.size ≤ 65536) : Calls Tryd.prog 72 #[.string s] w fun e w' => e = .returned (.int .i64 (kindL s.data.toList)) ∧ ∃ q, w' = w.drewN q := by
  have hcut := fun W => cut_one layCut s 46 W (by omega)
  have hcl := cut_len s.data.toList [46]
  have hsl : s.data.toList.length = s.size := by simp
  obtain ⟨r, hr⟩ : ∃ r, kindL s.data.toList = r := ⟨_, rfl⟩
  rw [hr]
  unfold kindL at hr
  rw [hsl] at hr hcl
  obtain ⟨a, b, d, hc⟩ : ∃ a b d, cut s.data.toList [46] = (a, b, d) := ⟨_, _, _, rfl⟩
  rw [hc] at hr hcl
  simp only [hc] at hcut
  dsimp only at hr hcl hcut
  have hpa := fun W => plain_any W ⟨a.toArray⟩ (by rw [bsize]; omega)
  have hpb := fun W => plain_any W ⟨b.toArray⟩ (by rw [bsize]; omega)
  have ea : (⟨a.toArray⟩ : ByteArray).data.toList = a := rfl
  have eb : (⟨b.toArray⟩ : ByteArray).data.toList = b := rfl
  rw [ea] at hpa
  rw [eb] at hpb
  change ∀ W, Calls Tryd.prog 87 _ W _ at hcut
  have HC := Aside0.mk hcut
  have HPA := Aside0.mk hpa
  have HPB := Aside0.mk hpb
  clear hcut hpa hpb hc hcl ea eb hsl
  by_cases h24 : 24 < s.size
  · rw [if_pos h24] at hr
    subst hr
    have hd : decide (24 < (s.size : Int)) = true := decide_eq_true (by omega)
    clear h24
    go_enter Tryd.func72, Tryd.ntmps72
    go_wp2_with fail
    refine (HC.out _).mono ?_
    rintro e w1 ⟨rfl, n1, rfl⟩
    go_wp2_with fail
    go_ret
    exact ⟨rfl, _, rfl⟩
  · rw [if_neg h24] at hr
    have hd : decide (24 < (s.size : Int)) = false := decide_eq_false (by omega)
    clear h24
    cases hpl : plainL a with
    | false =>
      rw [if_pos hpl] at hr
      have HPA := HPA.out
      rw [hpl] at HPA
      have HPA := Aside0.mk HPA
      clear hpl
      subst hr
      go_enter Tryd.func72, Tryd.ntmps72
      go_wp2_with fail
      refine (HC.out _).mono ?_
      rintro e w1 ⟨rfl, n1, rfl⟩
      go_wp2_with fail
      refine (HPA.out _).mono ?_
      rintro e w1 ⟨rfl, n2, rfl⟩
      go_wp2_with fail
      go_ret
      exact ⟨rfl, _, rfl⟩
    | true =>
      rw [if_neg (by rw [hpl]; decide)] at hr
      have HPA := HPA.out
      rw [hpl] at HPA
      have HPA := Aside0.mk HPA
      clear hpl
      cases d with
      | false =>
        rw [if_pos rfl] at hr
        subst hr
        go_enter Tryd.func72, Tryd.ntmps72
        go_wp2_with fail
        refine (HC.out _).mono ?_
        rintro e w1 ⟨rfl, n1, rfl⟩
        go_wp2_with fail
        refine (HPA.out _).mono ?_
        rintro e w1 ⟨rfl, n2, rfl⟩
        go_wp2_with fail
        go_ret
        exact ⟨rfl, _, rfl⟩
      | true =>
        rw [if_neg (by decide)] at hr
        cases hpl2 : plainL b with
        | true =>
          rw [if_pos hpl2] at hr
          subst hr
          have HPB := HPB.out
          rw [hpl2] at HPB
          have HPB := Aside0.mk HPB
          clear hpl2
          go_enter Tryd.func72, Tryd.ntmps72
          go_wp2_with fail
          refine (HC.out _).mono ?_
          rintro e w1 ⟨rfl, n1, rfl⟩
          go_wp2_with fail
          refine (HPA.out _).mono ?_
          rintro e w1 ⟨rfl, n2, rfl⟩
          go_wp2_with fail
          refine (HPB.out _).mono ?_
          rintro e w1 ⟨rfl, n3, rfl⟩
          go_wp2_with fail
          go_ret
          exact ⟨rfl, _, rfl⟩
        | false =>
          rw [if_neg (by rw [hpl2]; decide)] at hr
          subst hr
          have HPB := HPB.out
          rw [hpl2] at HPB
          have HPB := Aside0.mk HPB
          clear hpl2
          go_enter Tryd.func72, Tryd.ntmps72
          go_wp2_with fail
          refine (HC.out _).mono ?_
          rintro e w1 ⟨rfl, n1, rfl⟩
          go_wp2_with fail
          refine (HPA.out _).mono ?_
          rintro e w1 ⟨rfl, n2, rfl⟩
          go_wp2_with fail
          refine (HPB.out _).mono ?_
          rintro e w1 ⟨rfl, n3, rfl⟩
          go_wp2_with fail
          go_ret
          exact ⟨rfl, _, rfl⟩
theorem names_size (l : List UInt8) : ∀ n ∈ names l, n.length ≤ l.length := by
  induction l with
  | nil => intro n hn; simp [names] at hn; simp [hn]
  | cons c l ih =>
    intro n hn
    unfold names at hn
    split at hn
    · rcases List.mem_cons.1 hn with e | hn
      · rw [e]; exact Nat.zero_le _
      · exact Nat.le_succ_of_le (ih n hn)
    · split at hn
      · rename_i he
        exact absurd he (names_ne l)
      · rename_i m ms he
        rcases List.mem_cons.1 hn with e | hn
        · rw [e, List.length_cons, List.length_cons]
          exact Nat.succ_le_succ (ih m (by rw [he]; exact List.mem_cons_self))
        · exact Nat.le_succ_of_le (ih n (by rw [he]; exact List.mem_cons_of_mem _ hn))
theorem size_zero_list (p : ByteArray) : p.toList = [] ↔ p.size = 0 := by
  rw [ByteArray.toList_eq]
  exact ⟨fun h => by have : p.data.toList.length = 0 := by rw [h]; rfl
                     simpa using this, fun h => List.eq_nil_of_length_eq_zero (by simpa using h)⟩
set_option maxRecDepth 100000 in
set_option maxHeartbeats 2000000 in
theorem Kind_any (w : World) (p : ByteArray) (hp : p.size ≤ 65536) : Calls Tryd.prog 47 #[.string p] w fun e w' => e = .returned (.tuple #[.int .i64 (kindS p).1, .int .i64 (kindS p).2]) ∧ Below w.heap.size w w' := by
  obtain ⟨r1, r2, hr⟩ : ∃ a b, kindS p = (a, b) := ⟨_, _, rfl⟩
  rw [hr]
  unfold kindS at hr
  dsimp only
  by_cases h96 : 96 < p.size
  · rw [if_pos h96] at hr
    cases hr
    have hd : decide (96 < (p.size : Int)) = true := decide_eq_true (by omega)
    clear h96
    go_enter Tryd.func47, Tryd.ntmps47
    go_wp2_with fail
    go_ret2
    exact ⟨rfl, bel _ _⟩
  · rw [if_neg h96] at hr
    have hd : decide (96 < (p.size : Int)) = false := decide_eq_false (by omega)
    clear h96
    by_cases h0 : p.size = 0
    · rw [if_pos h0] at hr
      cases hr
      have hz := (size_zero_list p).2 h0
      have hz1 : (p.toList == []) = true := by rw [hz]; rfl
      clear h0 hz
      go_enter Tryd.func47, Tryd.ntmps47
      go_wp2_with fail
      go_ret2
      exact ⟨rfl, bel _ _⟩
    · rw [if_neg h0] at hr
      have hz1 : (p.toList == []) = false := beq_eq_false_iff_ne.mpr (fun e => h0 ((size_zero_list p).1 e))
      have hs := fun W => split_c W p (by omega)
      have hns := names_size p.data.toList
      have hpl : p.data.toList.length = p.size := by simp
      rw [hpl] at hns
      have HS := Aside0.mk hs
      have HR := Aside0.mk hr
      have HN := Aside0.mk hns
      have HP := Aside0.mk hp
      clear h0 hs hr hns hpl hp
      go_enter Tryd.func47, Tryd.ntmps47
      go_wp2_with fail
      refine (HS.out _).mono ?_
      rintro e w1 ⟨l, hl, nl, rfl, rfl⟩
      have HK : ∀ x ∈ l, x.size ≤ 65536 := fun x hx => by
        have h1 := HN.out x.data.toList (by rw [← hl.out]; exact List.mem_map_of_mem hx)
        have h2 := HP.out
        have h3 : x.data.toList.length = x.size := by simp
        omega
      have HK := Aside0.mk HK
      have hr := HR.out
      rw [← hl.out, List.length_map] at hr
      have HR := Aside0.mk hr
      clear hl hr
      go_wp2_with fail
      go_loopw [5, 19] (fun s i wr => ∃ (k q : Nat) (last : Int), k ≤ l.length ∧ s = .int .i64 last ∧ i = .int .i64 (k : Int) ∧ Aside0 (kindsL ((l.drop k).map (·.data.toList)) last = kindsL (l.map (·.data.toList)) 0) ∧ Aside0 (wr = (w.alloc (.cells (l.map Value.string).toArray 9)).drewN q)) (fun _ i _ => l.length - (RowKit.intOf i).toNat)
      case atStart => exact ⟨0, 0, 0, Nat.zero_le _, rfl, rfl, ⟨rfl⟩, ⟨rfl⟩⟩
      case round =>
        obtain ⟨k, q, last, hk, rfl, rfl, HA, HW⟩ := hrel
        have hw := HW.out
        subst hw
        clear HW
        by_cases hlt : k < l.length
        · have hA := HA.out
          rw [List.drop_eq_getElem_cons hlt, List.map_cons, kindsL] at hA
          have hki := fun W => kind_any W l[k] (HK.out _ (List.getElem_mem hlt))
          have hcs := kindL_cases l[k].data.toList
          generalize kindL l[k].data.toList = kk at hA hki hcs
          have HKI := Aside0.mk hki
          clear hki HA
          rcases hcs with rfl | rfl | rfl
          · rw [if_pos rfl] at hA
            have hR := HR.out
            rw [← hA] at hR
            cases hR
            clear hA
            go_wp2_with fail
            refine (HKI.out _).mono ?_
            rintro e w1 ⟨rfl, n1, rfl⟩
            go_wp2_with fail
            go_ret2
            exact ⟨rfl, bel _ _⟩
          · rw [if_neg (by decide), if_neg (fun h => absurd h.1 (by decide))] at hA
            have HA := Aside0.mk hA
            clear hA
            go_wp2_with fail
            refine (HKI.out _).mono ?_
            rintro e w1 ⟨rfl, n1, rfl⟩
            go_wp2_with fail
            go_roundw
            case rel => exact ⟨k + 1, _, 1, by omega, rfl, by go_num, HA, ⟨rfl⟩⟩
            case measure => simp [RowKit.intOf]; omega
          · rw [if_neg (by decide)] at hA
            by_cases hlast : k + 1 < l.length
            · rw [if_pos ⟨rfl, by simp; omega⟩] at hA
              have hR := HR.out
              rw [← hA] at hR
              cases hR
              clear hA
              have hd2 : decide ((k : Int) < (l.length : Int) - 1) = true := decide_eq_true (by omega)
              go_wp2_with fail
              refine (HKI.out _).mono ?_
              rintro e w1 ⟨rfl, n1, rfl⟩
              go_wp2_with fail
              go_ret2
              exact ⟨rfl, bel _ _⟩
            · rw [if_neg (by simp; omega)] at hA
              have HA := Aside0.mk hA
              clear hA
              have hd2 : decide ((k : Int) < (l.length : Int) - 1) = false := decide_eq_false (by omega)
              go_wp2_with fail
              refine (HKI.out _).mono ?_
              rintro e w1 ⟨rfl, n1, rfl⟩
              go_wp2_with fail
              go_roundw
              case rel => exact ⟨k + 1, _, 2, by omega, rfl, by go_num, HA, ⟨rfl⟩⟩
              case measure => simp [RowKit.intOf]; omega
        · have hA := HA.out
          rw [List.drop_of_length_le (by omega)] at hA
          have hR := HR.out
          rw [← hA] at hR
          simp only [List.map_nil, kindsL] at hR
          clear hA HA HR
          by_cases h8 : 8 < l.length
          · rw [if_pos h8] at hR
            cases hR
            have hd2 : decide (8 < (l.length : Int)) = true := decide_eq_true (by omega)
            go_wp2_with fail
            go_ret2
            exact ⟨rfl, bel _ _⟩
          · rw [if_neg h8] at hR
            cases hR
            have hd2 : decide (8 < (l.length : Int)) = false := decide_eq_false (by omega)
            go_wp2_with fail
            go_ret2
            exact ⟨rfl, bel _ _⟩
/-- Is a text a path? -/
def isP (p : ByteArray) : Bool := (kindS p).2 == 0
set_option maxHeartbeats 1000000 in
theorem is_any (w : World) (p : ByteArray) (hp : p.size ≤ 65536) : Calls Tryd.prog 75 #[.string p, .int .i64 0] w fun e w' => e = .returned (.bool (isP p)) ∧ Below w.heap.size w w' := by
  have hk := fun W => Kind_any W p hp
  unfold isP
  generalize kindS p = r at hk
  obtain ⟨a, b⟩ := r
  dsimp only at hk ⊢
  by_cases h0 : b = 0
  · subst h0
    have HK := Aside0.mk hk
    clear hk
    go_enter Tryd.func75, Tryd.ntmps75
    go_wp2_with fail
    refine (HK.out _).mono ?_
    rintro e w1 ⟨rfl, hb⟩
    go_wp2_with fail
    go_ret
    exact ⟨rfl, hb⟩
  · have h1 : (b == 0) = false := beq_eq_false_iff_ne.mpr h0
    rw [h1]
    have HK := Aside0.mk hk
    clear hk h0
    go_enter Tryd.func75, Tryd.ntmps75
    go_wp2_with fail
    refine (HK.out _).mono ?_
    rintro e w1 ⟨rfl, hb⟩
    go_wp2_with fail
    go_ret
    exact ⟨rfl, hb⟩
def path_Kind.f (p : ByteArray) : Option (Int × Int) := if p.size ≤ 65536 then some (kindS p) else none
theorem path_Kind.calls (a0 : ByteArray) (r1 : Int) (r2 : Int) (w : World) (h : path_Kind.f a0 = some (r1, r2)) :
    Calls Tryd.prog 47 #[.string a0] w fun e w' => e = .returned (.tuple #[.int .i64 r1, .int .i64 r2]) ∧ Below w.heap.size w w' := by
  unfold path_Kind.f at h
  split at h
  · rename_i hs
    injection h with h
    have k := Kind_any w a0 hs
    rw [h] at k
    exact k
  · simp at h
attribute [local go_sem] max2_int max_two
/-- The text ahead of the last / (of a text that has none: nothing). -/
def parB (p : ByteArray) : ByteArray := p.extract 0 (max (lastIndexByte p 47) 0).toNat
def parS (p : ByteArray) : ByteArray × Bool := if p.size = 0 ∨ isP p = false then (⟨#[]⟩, false) else (parB p, true)
theorem last_le (p : ByteArray) : -1 ≤ lastIndexByte p 47 ∧ lastIndexByte p 47 ≤ (p.size : Int) := by
  unfold lastIndexByte
  rcases lastIdx_spec p 47 p.size with ⟨e, _⟩ | ⟨i, hi, e, _, _⟩
  · rw [e]; omega
  · rw [e]; omega
set_option maxHeartbeats 1000000 in
theorem Parent_any (w : World) (p : ByteArray) (hp : p.size ≤ 65536) : Calls Tryd.prog 102 #[.string p] w fun e w' => e = .returned (.tuple #[.string (parS p).1, .bool (parS p).2]) ∧ Below w.heap.size w w' := by
  unfold parS
  have his := fun W => is_any W p hp
  have hle := last_le p
  have hli := fun W => Any.strings_LastIndexByte layLastIdx p 47 (by omega) W
  change ∀ W, Calls Tryd.prog 76 _ W _ at hli
  by_cases h0 : p.size = 0
  · rw [if_pos (.inl h0)]
    have hz := (size_zero_list p).2 h0
    have hz1 : (p.toList == []) = true := by rw [hz]; rfl
    clear h0 hz his hli
    go_enter Tryd.func102, Tryd.ntmps102
    go_wp2_with fail
    go_ret2
    exact ⟨rfl, bel _ _⟩
  · have hz1 : (p.toList == []) = false := beq_eq_false_iff_ne.mpr (fun e => h0 ((size_zero_list p).1 e))
    cases hb : isP p with
    | false =>
      rw [if_pos (.inr rfl)]
      rw [hb] at his
      have HI := Aside0.mk his
      clear his hli hb h0
      go_enter Tryd.func102, Tryd.ntmps102
      go_wp2_with fail
      refine (HI.out _).mono ?_
      rintro e w1 ⟨rfl, hb⟩
      go_wp2_with fail
      go_ret2
      exact ⟨rfl, hb⟩
    | true =>
      rw [if_neg (fun h => h.elim h0 (fun e => by cases e))]
      rw [hb] at his
      unfold parB
      generalize lastIndexByte p 47 = z at hle hli
      have HI := Aside0.mk his
      have HL := Aside0.mk hli
      have hle1 := hle.1
      have hle2 := hle.2
      clear his hli hb h0 hle
      by_cases hz : z < 0
      · rw [show max z 0 = 0 by omega, show p.extract 0 (Int.toNat 0) = ByteArray.empty by simp]
        have hp0 : (0 : Int) ≤ p.size := by omega
        go_enter Tryd.func102, Tryd.ntmps102
        go_wp2_with fail
        refine (HI.out _).mono ?_
        rintro e w1 ⟨rfl, hb⟩
        go_wp2_with fail
        refine (HL.out _).mono ?_
        rintro e w2 ⟨rfl, rfl⟩
        go_wp2_with fail
        go_ret2
        exact ⟨rfl, hb⟩
      · rw [show max z 0 = z by omega]
        have hz' : 0 ≤ z := by omega
        go_enter Tryd.func102, Tryd.ntmps102
        go_wp2_with fail
        refine (HI.out _).mono ?_
        rintro e w1 ⟨rfl, hb⟩
        go_wp2_with fail
        refine (HL.out _).mono ?_
        rintro e w2 ⟨rfl, rfl⟩
        go_wp2_with fail
        go_ret2
        exact ⟨rfl, hb⟩
end Go.Proofs.YtjllbkeobibnkaaDoor.Q

namespace Go.Proofs.YtjllbkeobibnkaaDoor.Q
open Go Go.Proofs Go.Shelf Go.RowKit Go.Lib Go.Sort Go.Proofs.YtjllbkeobibnkaaDoorP Go.Proofs.YtjllbkeobibnkaaDoorK Go.Proofs.YtjllbkeobibnkaaDoorW.PrintWords Go.Proofs.YtjllbkeobibnkaaDoorW.PrintLast Go.Proofs.YtjllbkeobibnkaaDoorW.PrintMore
attribute [local go_sem] Oper.semAt_some
set_option linter.unusedSimpArgs false
set_option linter.unusedVariables false
def upsN : Nat → ByteArray → List ByteArray
  | 0, _ => []
  | n + 1, p => if (parS p).2 = true then (parS p).1 :: upsN n (parS p).1 else []
/-- All directories that a path lies in. -/
def ups (p : ByteArray) : List ByteArray := upsN (p.size + 1) p
theorem parS_size {p : ByteArray} (h : (parS p).2 = true) : (parS p).1.size < p.size := by
  unfold parS at h ⊢
  split at h
  · cases h
  · rename_i hc
    rw [if_neg hc]
    have h0 : p.size ≠ 0 := fun e => hc (.inl e)
    have hl := last_le p
    show (parB p).size < p.size
    unfold parB
    rw [ByteArray.size_extract]
    unfold lastIndexByte
    rcases lastIdx_spec p 47 p.size with ⟨e, _⟩ | ⟨i, hi, e, _, _⟩
    · rw [e]; omega
    · rw [e]; omega
theorem upsN_more (n : Nat) : ∀ (m : Nat) (p : ByteArray), p.size < n → p.size < m → upsN n p = upsN m p := by
  induction n with
  | zero => intro m p h; omega
  | succ n ih =>
    intro m p h1 h2
    cases m with
    | zero => omega
    | succ m =>
      unfold upsN
      split
      · rename_i h
        have := parS_size h
        rw [ih m (parS p).1 (by omega) (by omega)]
      · rfl
theorem ups_eq (p : ByteArray) : ups p = if (parS p).2 = true then (parS p).1 :: ups (parS p).1 else [] := by
  unfold ups
  rw [upsN]
  split
  · rename_i h
    have := parS_size h
    rw [upsN_more p.size ((parS p).1.size + 1) _ this (by omega)]
  · rfl
/-- What is still to be told, behind (up, ok). -/
def restU (up : ByteArray) (ok : Bool) : List ByteArray := if ok = true then up :: ups up else []
theorem ups_rest (p : ByteArray) : ups p = restU (parS p).1 (parS p).2 := ups_eq p
def szOf : Value → Nat
  | .string s => s.size
  | _ => 0
def okOf : Value → Nat
  | .bool true => 1
  | _ => 0
theorem ups_in (F : Fence) (n : Nat) (hf : F.fn 89) (hro : F.round = none) (p : ByteArray) (w : World) :
    CallsIn F n Tryd.prog 89 #[.string p] w fun e w' => e = .returned (.func (.func 101) #[] #[.pointer (some ⟨w.heap.size, 0, none⟩)]) ∧ w' = w.alloc (.cells #[.string p] 9) := by
  refine callsIn_of_wp Tryd.func89 rfl hf ?_ hro
  simp only [Tryd.ntmps89, List.size_toArray, List.length_cons, List.length_nil, Nat.reduceAdd, Nat.reduceSub, Array.replicate_succ, Array.replicate_zero, List.push_toArray, List.append_toArray, List.nil_append, List.cons_append]
  gi_wp2
  go_ret
  exact ⟨rfl, rfl⟩
set_option maxRecDepth 100000 in
set_option maxHeartbeats 4000000 in
theorem ups1_in (n : Nat) (hn : 1 ≤ n) (l B : Nat) (p : ByteArray) (hp : p.size ≤ 65536) (J Jx : List ByteArray → World → Prop)
    (hY : ∀ pre x W, J pre W → pre.length < (ups p).length → YieldAt Fence.wide (n - 1) Tryd.prog l #[.string x] W fun e W' =>
      (e = .returned (.bool true) ∧ J (pre ++ [x]) W' ∧ True) ∨ (e = .returned (.bool false) ∧ Jx (pre ++ [x]) W'))
    (W : World) (b1 : Boxed W B 9 (.string p)) (hJ : AbidesFrom W.heap.size J) (h0 : J [] W) :
    CallsIn Fence.wide n Tryd.prog 101 #[.func (.yield l) #[] #[], .pointer (some ⟨B, 0, none⟩)] W fun e W' => (∃ v, e = .returned v) ∧
      ((∃ ys, ys = ups p ∧ J ys W') ∨ (∃ pre, pre <+: ups p ∧ Jx pre W')) := by
  have c1 := b1.cell
  have hja : ∀ s X Y, J s X → Below X.heap.size X Y → J s Y := fun s X Y h hb => hJ s X Y none h ⟨hb.os, hb.tape, hb.output, hb.size, fun k hk _ => hb.block k hk⟩ (fun r e => by cases e)
  have HJA := Aside0.mk hja
  have HY := Aside0.mk hY
  clear hja hJ hY
  have hpar := fun W q (hq : q.size ≤ 65536) => (callsIn_wide (n := n - 1)).2 (Parent_any W q hq)
  have HPAR := Aside0.mk hpar
  have HP := Aside0.mk hp
  clear hpar hp
  refine callsIn_of_wp Tryd.func101 rfl trivial ?_ rfl
  simp only [Tryd.ntmps101, List.size_toArray, List.length_cons, List.length_nil, Nat.reduceAdd, Nat.reduceSub, Array.replicate_succ, Array.replicate_zero, List.push_toArray, List.append_toArray, List.nil_append, List.cons_append]
  gi_wp2_with fail
  refine ⟨trivial, (HPAR.out _ _ HP.out).mono ?_⟩
  rintro e W1 ⟨rfl, hb1⟩
  have h1 := HJA.out _ _ _ h0 hb1
  clear h0
  have hsz : (parS p).2 = true → (parS p).1.size ≤ 65536 := fun h => by have := parS_size h; have := HP.out; omega
  have HU := Aside0.mk (ups_rest p)
  generalize parS p = r at HU hsz
  obtain ⟨up, ok⟩ := r
  dsimp only at HU hsz
  have HSZ := Aside0.mk hsz
  clear hsz hb1 c1
  gi_wp2_with fail
  gi_loopw [3, 4] (fun u o wr => ∃ pre up ok, u = .string up ∧ o = .bool ok ∧ J pre wr ∧ Aside0 (ups p = pre ++ restU up ok) ∧ Aside0 (ok = true → up.size ≤ 65536)) (fun u o _ => okOf o * (szOf u + 1))
  case atStart => exact ⟨[], up, ok, rfl, rfl, h1, HU, HSZ⟩
  case round =>
    clear HU HSZ h1
    obtain ⟨pre, up, ok, rfl, rfl, hJs, HU, HSZ⟩ := hrel
    cases ok with
    | true =>
      have hu := HU.out
      unfold restU at hu
      rw [if_pos rfl] at hu
      have hlen : pre.length < (ups p).length := by rw [hu, List.length_append, List.length_cons]; omega
      obtain ⟨fn, tmps, assign, body, hy, hR⟩ := HY.out _ up _ hJs hlen
      have hpre : pre ++ [up] <+: ups p := ⟨ups up, by rw [hu]; simp⟩
      have HPRE := Aside0.mk hpre
      have hu2 : ups p = (pre ++ [up]) ++ restU (parS up).1 (parS up).2 := by rw [hu, ups_rest up]; simp
      have hsz2 : (parS up).2 = true → (parS up).1.size < up.size := parS_size
      have hups := HSZ.out rfl
      have HPU := Aside0.mk (HPAR.out · up hups)
      generalize parS up = r at hu2 hsz2 HPU
      obtain ⟨up2, ok2⟩ := r
      dsimp only at hu2 hsz2 HPU
      have HU2 := Aside0.mk hu2
      have HZ2 := Aside0.mk hsz2
      have HUP := Aside0.mk hups
      clear hu hu2 HU hlen hpre hsz2 HSZ hups
      gi_wp2_with fail
      refine hR.mono ?_
      rintro e W3 (⟨rfl, hJ3, _⟩ | ⟨rfl, hJx3⟩)
      · gi_wp2_with fail
        refine ⟨trivial, (HPU.out _).mono ?_⟩
        rintro e W4 ⟨rfl, hb4⟩
        have hJ4 := HJA.out _ _ _ hJ3 hb4
        clear hb4
        gi_wp2_with fail
        go_roundw
        case rel => exact ⟨pre ++ [up], up2, ok2, rfl, rfl, hJ4, HU2, ⟨fun h => by have := HZ2.out h; have := HUP.out; omega⟩⟩
        case measure =>
          cases ok2 with
          | true => have := HZ2.out rfl; simp [okOf, szOf]; omega
          | false => simp [okOf, szOf]
      · gi_wp2_with fail
        refine bodyPost_ret (results_none rfl _ _ _) rfl ?_
        exact ⟨⟨_, rfl⟩, .inr ⟨_, HPRE.out, hJx3⟩⟩
    | false =>
      have hu := HU.out
      unfold restU at hu
      rw [if_neg (by decide), List.append_nil] at hu
      have HU := Aside0.mk hu
      clear hu
      gi_wp2_with fail
      go_end0
      exact ⟨⟨_, rfl⟩, .inl ⟨_, rfl, by rw [HU.out]; exact hJs⟩⟩
theorem ups_stops (n : Nat) (hn : 1 ≤ n) (B : Nat) (p : ByteArray) (hp : p.size ≤ 65536) (w1 : World) (b1 : Boxed w1 B 9 (.string p)) :
    SeqStopsK Fence.wide n Tryd.prog 101 #[.pointer (some ⟨B, 0, none⟩)] (fun x : ByteArray => #[.string x]) (fun _ _ => True) (fun ys => ys = ups p) (fun pre => pre <+: ups p) (ups p).length w1 := fun l J Jx W hW hJ hJx hY h0 =>
  ups1_in n hn l B p hp J Jx hY W ((hW.block _ b1.lt).trans b1) hJ h0
/-- Does a path lie in a directory? -/
def belowS (d p : ByteArray) : Bool := (ups p).any fun u => u.toList == d.toList
set_option maxRecDepth 100000 in
set_option maxHeartbeats 4000000 in
theorem below_in (n : Nat) (hn : 5 ≤ n) (d p : ByteArray) (hp : p.size ≤ 65536) (w : World) :
    CallsIn Fence.wide n Tryd.prog 74 #[.string d, .string p] w fun e W' => e = .returned (.bool (belowS d p)) ∧ Below w.heap.size w W' := by
  have h1 : 1 ≤ n := by omega
  have hro : Fence.wide.round = none := rfl
  refine callsIn_of_wp_marks Tryd.func74 rfl trivial ?_ hro
  simp only [Tryd.ntmps74, List.size_toArray, List.length_cons, List.length_nil, Nat.reduceAdd, Nat.reduceSub, Array.replicate_succ, Array.replicate_zero, List.push_toArray, List.append_toArray, List.nil_append, List.cons_append]
  gi_wp2_with fail
  refine ⟨trivial, (ups_in Fence.wide (n - 1) trivial hro _ _).mono ?_⟩
  rintro e w' ⟨rfl, rfl⟩
  gi_wp2_with fail
  obtain ⟨Z, hZ⟩ : ∃ Z, Z = (w.alloc (.cells #[.string d] 9)).alloc (.cells #[.bool false] 4) := ⟨_, rfl⟩
  have bR := (Boxed.new w 9 (.string d)).alloc (.cells #[.bool false] 4)
  have bQ := Boxed.new (w.alloc (.cells #[.string d] 9)) 4 (.bool false)
  have hB0 : Below w.heap.size w Z := by rw [hZ]; exact ((Below.refl _ w).alloc (Nat.le_refl _) _).alloc (by simp) _
  have hsz : Z.heap.size = w.heap.size + 1 + 1 := by rw [hZ]; simp
  rw [World.size_alloc] at bQ
  rw [← hZ] at bR bQ ⊢
  clear hZ
  have b1 := Boxed.new Z 9 (.string p)
  rw [hsz] at b1
  replace hB0 := hB0.alloc (by omega) (.cells #[.string p] 9)
  replace bR := bR.alloc (.cells #[.string p] 9)
  replace bQ := bQ.alloc (.cells #[.string p] 9)
  have hszW : (Z.alloc (.cells #[.string p] 9)).heap.size = w.heap.size + 3 := by simp; omega
  obtain ⟨W0, hW0⟩ : ∃ W0, Z.alloc (.cells #[.string p] 9) = W0 := ⟨_, rfl⟩
  rw [hW0] at b1 bR bQ hB0 hszW ⊢
  clear hW0
  refine wpIn_rangeFunc_ownH hro h1 (gf := 101) (lb := #[.pointer (some ⟨(w.heap.size + 1 + 1), 0, none⟩)]) rfl trivial (enters_of Tryd.func101 (by kernel_rfl) rfl)
    (ups_stops (n - 1) (by omega) (w.heap.size + 1 + 1) p hp W0 b1) (fun _ _ => trivial) (fun _ _ _ _ _ _ _ _ => trivial) (Below.refl _ _) (fun _ => rfl)
    (fun pre W => ((pre.any (fun u => u.toList == d.toList) = false ∧ Boxed W w.heap.size 9 (.string d)) ∧ Boxed W (w.heap.size + 1) 4 (.bool false)) ∧ Below w.heap.size w W)
    (fun c pre W => ((c = .ret ∧ pre.any (fun u => u.toList == d.toList) = true) ∧ Boxed W (w.heap.size + 1) 4 (.bool true)) ∧ Below w.heap.size w W)
    (OwnFrom.and (OwnFrom.and (OwnFrom.and (ownFrom_pure _ _) (Own.from (boxed_own _ _ _) _)) (Own.from (boxed_own _ _ _) _)) (ownFrom_below (Nat.le_refl _) (by omega)))
    (fun c => OwnFrom.and (OwnFrom.and (ownFrom_pure _ _) (Own.from (boxed_own _ _ _) _)) (ownFrom_below (Nat.le_refl _) (by omega)))
    ⟨⟨⟨rfl, bR⟩, bQ⟩, hB0⟩
    (fun x a' W => a' = { tmps := #[.string d, .string p, .pointer (some ⟨w.heap.size, 0, none⟩), undef, .pointer (some ⟨w.heap.size + 1, 0, none⟩), .string x, .string p, .func (.func 101) #[] #[.pointer (some ⟨(w.heap.size + 1 + 1), 0, none⟩)], .string x, undef, undef, undef], defers := [] })
    (fun x a' _ X Y row hs hg hr => hs)
    ?assign ?body ?done ?stop
  case assign =>
    rintro l pre x W K ⟨⟨⟨hpre, bR1⟩, bB1⟩, hB1⟩ hK
    simp only at hK ⊢
    gi_wp2
    exact hK _ _ ((KeepsOthers.refl _).from _) trivial ⟨⟨⟨hpre, bR1⟩, bB1⟩, hB1⟩ rfl
  case body =>
    rintro l pre x a' W hl ⟨r, hr⟩ ⟨⟨⟨hpre, bR1⟩, bB1⟩, hB1⟩ rfl hlt
    have cR := bR1.cell
    have fR := bR1.frozen
    have cB := bB1.cell
    have fB := bB1.frozen
    cases hx : (x.toList == d.toList) with
    | true =>
      have HX : Aside0 ((pre ++ [x]).any (fun u => u.toList == d.toList) = true) := ⟨by simp [hx]⟩
      clear hpre
      gi_wp2
      exact ⟨(KeepsOthers.setCell _ _ _).from _, ⟨⟨by first | rfl | trivial, HX.out⟩, bB1.set _⟩, hB1.setCell (p := ⟨w.heap.size + 1, 0, none⟩) (by simp) _⟩
    | false =>
      have HX : Aside0 ((pre ++ [x]).any (fun u => u.toList == d.toList) = false) := ⟨by rw [List.any_append, hpre]; simp [hx]⟩
      clear hpre
      gi_wp2
      exact ⟨((KeepsOthers.refl _).from _), trivial, ⟨⟨HX.out, bR1⟩, bB1⟩, hB1⟩
  case done =>
    rintro D zs W hD rfl ⟨⟨⟨hp, bR1⟩, bB1⟩, hB1⟩ hK
    have HP := Aside0.mk hp
    clear hp
    have cB := bB1.cell
    have fB := bB1.frozen
    gi_wp2
    have hK' := (KeepsOthers.setCell W ⟨w.heap.size + 1, 0, none⟩ (.bool false)).same D _ hK rfl
    refine ⟨by simp, .inl ⟨_, _, rfl, run_takeDeferred hK', ?_⟩⟩
    have hc5 := cell_kept (bB1.set (.bool false)).cell (grownBy_putObj' _ D (.deferred none)) (fun r e => by cases e; exact ⟨_, hK', rfl⟩)
    refine ⟨.bool false, ?_, by unfold belowS; rw [HP.out], (hB1.setCell (p := ⟨w.heap.size + 1, 0, none⟩) (by simp) _).trans (belowK_b (w := w) (Nat.le_refl _) _ D _ _ (by omega) hK' rfl rfl)⟩
    simp [results, Tryd.f74, go_sem, hc5]
  case stop =>
    rintro D c pre W hD hpre ⟨⟨⟨rfl, hne⟩, bB1⟩, hB1⟩ hK
    have HP := Aside0.mk hne
    clear hne
    gi_wp2
    refine ⟨by simp, .inl ⟨_, _, rfl, run_takeDeferred hK, ?_⟩⟩
    have hc5 := cell_kept bB1.cell (grownBy_putObj' _ D (.deferred none)) (fun r e => by cases e; exact ⟨_, hK, rfl⟩)
    refine ⟨.bool true, ?_, ?_, hB1.trans (belowK_b (w := w) (Nat.le_refl _) W D _ _ (by omega) hK rfl rfl)⟩
    · simp [results, Tryd.f74, go_sem, hc5]
    · obtain ⟨u, hu⟩ := hpre
      unfold belowS
      rw [← hu, List.any_append, HP.out, Bool.true_or]
theorem Below_any (w : World) (d p : ByteArray) (hp : p.size ≤ 65536) :
    Calls Tryd.prog 74 #[.string d, .string p] w fun e w' => e = .returned (.bool (belowS d p)) ∧ Below w.heap.size w w' :=
  callsIn_wide.1 (below_in 5 (Nat.le_refl _) d p hp w)
def path_Below.f (d p : ByteArray) : Option Bool := if p.size ≤ 65536 then some (belowS d p) else none
theorem path_Below.calls (a0 : ByteArray) (a1 : ByteArray) (r : Bool) (w : World) (h : path_Below.f a0 a1 = some r) :
    Calls Tryd.prog 74 #[.string a0, .string a1] w fun e w' => e = .returned (.bool r) ∧ Below w.heap.size w w' := by
  unfold path_Below.f at h
  split at h
  · rename_i hs
    injection h with h
    subst h
    exact Below_any w a0 a1 hs
  · simp at h
end Go.Proofs.YtjllbkeobibnkaaDoor.Q

namespace Go.Proofs.YtjllbkeobibnkaaDoorK
open Go Go.RowKit Go.Proofs.YtjllbkeobibnkaaDoorW.PrintWords Go.Proofs.YtjllbkeobibnkaaDoorW.PrintLast
theorem box_skip {P : Program} {ops : Array Oper} {oi : Oper} {a : Act} {W : World} {K : Act → World → Prop} {Q : Exit → Act → World → Prop} (hw : Region.wanted oi (yielded ops a.tmps) = true) (hN : oi.dst = none) (ty : TypeId) (x y : Operand) (ho : oi.op = .store ty x y)
    {g : Nat} {t : TypeId} {old : Array Value} (hg : W.heap[g]? = some (.cells old t (0, 0))) (cells : Array Value) (hx : a.eval x = .pointer (some ⟨g, 0, none⟩)) (hy : a.eval y = .agg cells)
    (hi : (P.info? ty).map (·.size) = some cells.size) (hold : old.size = cells.size) (h1 : cells.toList.all (·.oneCell') = true)
    (h : ∀ w1, w1.heap[g]? = some (.cells cells t (0, 0)) → W.grownBy w1 (some g) → K a w1) : if Region.wanted oi (yielded ops a.tmps) = true then Oper.wp P oi a W K Q else K (a.put none undef) W := by
  rw [if_pos hw]
  refine wp_store_row ty x y ho g cells hx hy t old hg hi hold (by rw [← Array.all_toList]; exact h1) ?_
  rw [hN]
  exact h _ (setRow_heap W g old cells t (0, 0) hg) (grown_setRow W g cells)
end Go.Proofs.YtjllbkeobibnkaaDoorK

namespace Go.Proofs.YtjllbkeobibnkaaDoor.Q
open Go Go.Proofs Go.Shelf Go.RowKit Go.Lib Go.Sort Go.Proofs.YtjllbkeobibnkaaDoorP Go.Proofs.YtjllbkeobibnkaaDoorK Go.Proofs.YtjllbkeobibnkaaDoorW.PrintWords Go.Proofs.YtjllbkeobibnkaaDoorW.PrintLast Go.Proofs.YtjllbkeobibnkaaDoorW.PrintMore
set_option linter.unusedSimpArgs false
set_option linter.unusedVariables false
theorem strcmp_c (W : World) (a b : ByteArray) : Calls Tryd.prog 81 #[.string a, .string b] W fun e w' => e = .returned (.int .i64 (Lib.compareBytes a.data.toList b.data.toList)) ∧ w' = W := Any.strings_Compare layStrCmp a b W
theorem intcmp_c (W : World) (a b : Int) : Calls Tryd.prog 82 #[.int .i64 a, .int .i64 b] W fun e w' => e = .returned (.int .i64 (Lib.compareInt a b)) ∧ w' = W := AnyG.cmp_Compare_int layIntCmp a b W
theorem min2_mn (k k' : IntKind) (x y : Int) : Builtin.min2 (.int k x) (.int k' y) = pure (.int k (mn x y)) := by
  rw [min2_int]
  unfold mn
  rfl
attribute [local go_sem ↓] Go.Proofs.YtjllbkeobibnkaaDoorK.isSome_setCell
attribute [local go_sem] min2_mn min_two cell_held frozen_held
theorem lex_end {α : Type} (f : α → α → Int) (x y : List α) (k : Nat) (hx : k ≤ x.length) (hy : k ≤ y.length) (h : k = x.length ∨ k = y.length) : lexC f (x.drop k) (y.drop k) = Lib.compareInt x.length y.length := by
  unfold Lib.compareInt
  by_cases h1 : k = x.length
  · rw [List.drop_of_length_le (show x.length ≤ k by omega)]
    by_cases h2 : k = y.length
    · rw [List.drop_of_length_le (show y.length ≤ k by omega), if_neg (by omega), if_neg (by omega)]
      rfl
    · rw [List.drop_eq_getElem_cons (show k < y.length by omega), if_pos (by omega)]
      rfl
  · rw [List.drop_of_length_le (show y.length ≤ k by omega), List.drop_eq_getElem_cons (show k < x.length by omega), if_neg (by omega), if_pos (by omega)]
    rfl
def pcmpR.T5 : Bool × List (List Nat × List Nat) := (true, [([], []), ([], []), ([0, 1], [0, 1]), ([2], [2]), ([], []), ([], []), ([4, 5], [4, 5]), ([6], [6]), ([3, 7], [3, 7]), ([8, 8, 0, 1, 2, 3, 4, 5, 6, 7, 8], [8])])
def pcmpR.B5 : List Nat := [0, 0, 3, 7, 0, 0, 48, 112, 255, 511]
theorem pcmpR.tab5 : rtab .any (opsOf Tryd.f61 5) = pcmpR.T5 := by kernel_rfl
theorem pcmpR.bits5 : waitsOk pcmpR.T5.2 pcmpR.B5 = true := by kernel_rfl
theorem two_grow (W : World) (o1 o2 : Obj) (q : Nat) : ((W.alloc o1).alloc o2).drewN q = grow (W.drewN q) #[o1, o2] := by
  have h : ((W.alloc o1).alloc o2).drewN q = ((W.drewN q).alloc o1).alloc o2 := rfl
  rw [h, alloc_eq_grow, alloc_eq_grow, grow_grow]
  rfl
set_option maxRecDepth 100000 in
set_option maxHeartbeats 2000000 in
theorem cmp_any (w : World) (a b : ByteArray) (ha : a.size < 4294967281) (hb : b.size < 4294967281) :
    Calls Tryd.prog 61 #[.string a, .string b] w fun e w' => e = .returned (.int .i64 (pcmp a b)) ∧ ∃ q os, w' = grow (w.drewN q) os := by
  have hsa := fun W => split_c W a ha
  have hsb := fun W => split_c W b hb
  have HSA := Aside0.mk hsa
  have HSB := Aside0.mk hsb
  clear hsa hsb ha hb
  go_enter Tryd.func61, Tryd.ntmps61
  go_wp2_with fail
  refine (HSA.out _).mono ?_
  rintro e w1 ⟨lA, hA, nA, rfl, rfl⟩
  go_wp2_with fail
  refine (HSB.out _).mono ?_
  rintro e w2 ⟨lB, hB, nB, rfl, rfl⟩
  obtain ⟨r, hpr⟩ : ∃ r, pcmp a b = r := ⟨_, rfl⟩
  have hr : Aside0 (cmpN (lA.map (·.data.toList)) (lB.map (·.data.toList)) = r) := ⟨by rw [hA.out, hB.out]; exact hpr⟩
  have HPR := Aside0.mk hpr
  clear hpr
  go_wp2_with fail
  generalize hm : mn (lA.length : Int) (lB.length : Int) = m
  have hm1 : m ≤ lA.length ∧ m ≤ lB.length ∧ (m = lA.length ∨ m = lB.length) := by unfold mn at hm; split at hm <;> omega
  clear hm
  go_loopw [18] (fun i wr => ∃ k q : Nat, (k : Int) ≤ m ∧ i = .int .i64 (k : Int) ∧ Aside0 (cmpN ((lA.drop k).map (·.data.toList)) ((lB.drop k).map (·.data.toList)) = r) ∧ Aside0 (wr = ((w.alloc (.cells (lA.map Value.string).toArray 9)).alloc (.cells (lB.map Value.string).toArray 9)).drewN q)) (fun i _ => m.toNat - (RowKit.intOf i).toNat)
  case atStart => exact ⟨0, 0, by omega, rfl, hr, ⟨rfl⟩⟩
  case round =>
    obtain ⟨k, q, hk, rfl, HR, HW⟩ := hrel
    have hw := HW.out
    subst hw
    clear HW
    by_cases hlt : (k : Int) < m
    · have hka : k < lA.length := by omega
      have hkb : k < lB.length := by omega
      have hR := HR.out
      rw [List.drop_eq_getElem_cons hka, List.drop_eq_getElem_cons hkb, List.map_cons, List.map_cons] at hR
      have hsc := fun W => strcmp_c W lA[k] lB[k]
      simp only [cmpN, lexC] at hR
      generalize Lib.compareBytes lA[k].data.toList lB[k].data.toList = c at hR hsc
      have HSC := Aside0.mk hsc
      clear hsc
      go_wp2_with fail
      refine start_ (n := 10) (S := fun w' => w'.heap[w.heap.size]? = some (.cells (lA.map Value.string).toArray 9 (0, 0)) ∧ w'.heap[w.heap.size + 1]? = some (.cells (lB.map Value.string).toArray 9 (0, 0))) (ds := []) #[false, false, false, false, false, false, false, false, false, false] (by kernel_rfl) rfl rfl ⟨held, held⟩ (fun hHeld => ?_); refine with_tabW pcmpR.tab5 pcmpR.bits5 (fun HT_ HW_ => ?_)
      refine pure_ (i := 0) (N := some 21) (v := ?_) (a' := ?_) #[true, false, false, false, false, false, false, false, false, false] rfl rfl (any_of HT_.out (by kernel_rfl)) (fun _ _ _ h => h) (Or.inl ⟨by rfl, ?_⟩) ?_ ?_
      rotate_left
      · intro w'
        go_simp
        with_reducible rfl
      rotate_left
      · simp only [Act.put, List.setIfInBounds_toArray, List.set_cons_zero, List.set_cons_succ, i64_w, i32_w]
        rfl
      refine pure_ (i := 1) (N := some 22) (v := ?_) (a' := ?_) #[true, true, false, false, false, false, false, false, false, false] rfl rfl (any_of HT_.out (by kernel_rfl)) (fun _ _ _ h => h) (Or.inl ⟨by rfl, ?_⟩) ?_ ?_
      rotate_left
      · intro w'
        go_simp
        with_reducible rfl
      rotate_left
      · simp only [Act.put, List.setIfInBounds_toArray, List.set_cons_zero, List.set_cons_succ, i64_w, i32_w]
        rfl
      refine pure_ (i := 2) (N := some 23) (v := ?_) (a' := ?_) #[true, true, true, false, false, false, false, false, false, false] rfl rfl (any_of HT_.out (by kernel_rfl)) (fun _ _ _ h => h) (Or.inl ⟨by rfl, ?_⟩) ?_ ?_
      rotate_left
      · intro w'
        go_simp
        with_reducible rfl
      rotate_left
      · simp only [Act.put, List.setIfInBounds_toArray, List.set_cons_zero, List.set_cons_succ, i64_w, i32_w]
        rfl
      refine pure_ (i := 4) (N := some 25) (v := ?_) (a' := ?_) #[true, true, true, false, true, false, false, false, false, false] rfl rfl (any_of HT_.out (by kernel_rfl)) (fun _ _ _ h => h) (Or.inl ⟨by rfl, ?_⟩) ?_ ?_
      rotate_left
      · intro w'
        go_simp
        with_reducible rfl
      rotate_left
      · simp only [Act.put, List.setIfInBounds_toArray, List.set_cons_zero, List.set_cons_succ, i64_w, i32_w]
        rfl
      refine pure_ (i := 5) (N := some 26) (v := ?_) (a' := ?_) #[true, true, true, false, true, true, false, false, false, false] rfl rfl (any_of HT_.out (by kernel_rfl)) (fun _ _ _ h => h) (Or.inl ⟨by rfl, ?_⟩) ?_ ?_
      rotate_left
      · intro w'
        go_simp
        with_reducible rfl
      rotate_left
      · simp only [Act.put, List.setIfInBounds_toArray, List.set_cons_zero, List.set_cons_succ, i64_w, i32_w]
        rfl
      refine pure_ (i := 6) (N := some 27) (v := ?_) (a' := ?_) #[true, true, true, false, true, true, true, false, false, false] rfl rfl (any_of HT_.out (by kernel_rfl)) (fun _ _ _ h => h) (Or.inl ⟨by rfl, ?_⟩) ?_ ?_
      rotate_left
      · intro w'
        go_simp
        with_reducible rfl
      rotate_left
      · simp only [Act.put, List.setIfInBounds_toArray, List.set_cons_zero, List.set_cons_succ, i64_w, i32_w]
        rfl
      refine take_ (i := 3) (N := some 24) (v := ?_) (a' := ?_) #[true, true, true, true, true, true, true, false, false, false] rfl rfl (take_ofW HT_.out HW_.out (by kernel_rfl)) (fun _ _ _ h => h) (Or.inl ⟨by rfl, ?_⟩) hHeld ?_ ?_
      rotate_left
      · rintro w' ⟨s0, s1⟩
        have i0 : Holds w' w.heap.size (.cells (lA.map Value.string).toArray 9) := ⟨s0⟩
        have i1 : Holds w' (w.heap.size + 1) (.cells (lB.map Value.string).toArray 9) := ⟨s1⟩
        go_simp
        with_reducible rfl
      rotate_left
      · simp only [Act.put, List.setIfInBounds_toArray, List.set_cons_zero, List.set_cons_succ, i64_w, i32_w]
        rfl
      refine take_ (i := 7) (N := some 28) (v := ?_) (a' := ?_) #[true, true, true, true, true, true, true, true, false, false] rfl rfl (take_ofW HT_.out HW_.out (by kernel_rfl)) (fun _ _ _ h => h) (Or.inl ⟨by rfl, ?_⟩) hHeld ?_ ?_
      rotate_left
      · rintro w' ⟨s0, s1⟩
        have i0 : Holds w' w.heap.size (.cells (lA.map Value.string).toArray 9) := ⟨s0⟩
        have i1 : Holds w' (w.heap.size + 1) (.cells (lB.map Value.string).toArray 9) := ⟨s1⟩
        go_simp
        with_reducible rfl
      rotate_left
      · simp only [Act.put, List.setIfInBounds_toArray, List.set_cons_zero, List.set_cons_succ, i64_w, i32_w]
        rfl
      refine one_ (i := 8) (N := some 29) #[true, true, true, true, true, true, true, true, true, false] rfl rfl (one_of HT_.out (by kernel_rfl)) (by decide) (fun K hK => ?_)
      refine goes_ Tryd.func81 (by kernel_rfl) rfl #[.string lA[k], .string lB[k]] (by rfl) rfl rfl (by (try simp only [List.map_toArray, List.map_cons, List.map_nil]); first | done | rfl) ?_
      refine (HSC.out _).mono ?_
      rintro e1 w1 ⟨rfl, rfl⟩
      refine ⟨_, rfl, ?_⟩
      refine hK.out _ _ ⟨held, held⟩ (fun hHeld => ?_)
      clear hK K
      refine norm_ (a' := ?_) ?_ ?_
      rotate_left
      · show Act.put _ (some 29) _ = _
        simp only [Act.put, List.setIfInBounds_toArray, List.set_cons_zero, List.set_cons_succ, i64_w, i32_w]
        rfl
      refine pure_ (i := 9) (N := some 8) (v := ?_) (a' := ?_) #[true, true, true, true, true, true, true, true, true, true] rfl rfl (any_of HT_.out (by kernel_rfl)) (fun _ _ _ h => h) (Or.inl ⟨by rfl, ?_⟩) ?_ ?_
      rotate_left
      · intro w'
        go_simp
        with_reducible rfl
      rotate_left
      · simp only [Act.put, List.setIfInBounds_toArray, List.set_cons_zero, List.set_cons_succ, i64_w, i32_w]
        rfl
      refine done_ (done_of HT_.out (by kernel_rfl)) ?_
      by_cases h0 : c = 0
      · subst h0
        rw [if_pos rfl] at hR
        have HR' := Aside0.mk hR
        clear hR
        go_wp2_with fail
        go_roundw
        case rel => exact ⟨k + 1, q + 1, by omega, by go_num, HR', ⟨rfl⟩⟩
        case measure => simp [RowKit.intOf]; omega
      · rw [if_neg h0] at hR
        subst hR
        have hz1 : (c != 0) = true := bne_iff_ne.mpr h0
        have hz2 : (c == 0) = false := beq_eq_false_iff_ne.mpr h0
        go_wp2_with fail
        go_ret
        exact ⟨by rw [HPR.out]; rfl, q + 1, _, two_grow _ _ _ (q + 1)⟩
    · have hR := HR.out
      have he := lex_end Lib.compareBytes (lA.map (·.data.toList)) (lB.map (·.data.toList)) k (by simp only [List.length_map]; omega) (by simp only [List.length_map]; omega) (by simp only [List.length_map]; omega)
      unfold cmpN at hR
      rw [List.map_drop, List.map_drop, he] at hR
      simp only [List.length_map] at hR
      have hic := fun W => intcmp_c W lA.length lB.length
      rw [hR] at hic
      have HIC := Aside0.mk hic
      clear hR he hic HR
      go_wp2_with fail
      refine (HIC.out _).mono ?_
      rintro e w3 ⟨rfl, rfl⟩
      go_wp2_with fail
      go_ret
      exact ⟨by rw [HPR.out]; rfl, q, _, two_grow _ _ _ q⟩
theorem grow_below (w : World) (q : Nat) (os : Array Obj) : Below w.heap.size w (grow (w.drewN q) os) := by
  have h : (w.drewN q).heap = w.heap := rfl
  exact ⟨rfl, rfl, rfl, by show w.heap.size ≤ ((w.drewN q).heap ++ os).size; rw [h, Array.size_append]; omega, fun k hk => by show ((w.drewN q).heap ++ os)[k]? = w.heap[k]?; rw [h, Array.getElem?_append_left hk]⟩
def path_Compare.f (a b : ByteArray) : Option Int := if a.size ≤ 65536 ∧ b.size ≤ 65536 then some (pcmp a b) else none
theorem path_Compare.calls (a0 : ByteArray) (a1 : ByteArray) (r : Int) (w : World) (h : path_Compare.f a0 a1 = some r) :
    Calls Tryd.prog 61 #[.string a0, .string a1] w fun e w' => e = .returned (.int .i64 r) ∧ Below w.heap.size w w' := by
  unfold path_Compare.f at h
  split at h
  · rename_i hs
    injection h with h
    subst h
    refine (cmp_any w a0 a1 (by omega) (by omega)).mono ?_
    rintro e w' ⟨rfl, q, os, rfl⟩
    exact ⟨rfl, grow_below _ _ _⟩
  · simp at h
end Go.Proofs.YtjllbkeobibnkaaDoor.Q

namespace Go.Proofs.YtjllbkeobibnkaaDoor.Q
open Go Go.Proofs Go.Shelf Go.RowKit Go.Lib Go.Sort Go.Proofs.YtjllbkeobibnkaaDoorP Go.Proofs.YtjllbkeobibnkaaDoorK Go.Proofs.YtjllbkeobibnkaaDoorW.PrintWords Go.Proofs.YtjllbkeobibnkaaDoorW.PrintLast Go.Proofs.YtjllbkeobibnkaaDoorW.PrintMore
set_option linter.unusedSimpArgs false
set_option linter.unusedVariables false
def withinS (d p : ByteArray) : Bool := (p.toList == d.toList) || belowS d p
def leP (x y : ByteArray) : Prop := ¬ pcmp y x < 0
instance (x y : ByteArray) : Decidable (leP x y) := inferInstanceAs (Decidable (¬ _))
def shortP (l : List ByteArray) : Bool := decide (l.length ≤ 1048576) && l.all fun p => decide (p.size ≤ 65536)
theorem shortP_mem {l : List ByteArray} (h : shortP l = true) : l.length ≤ 1048576 ∧ ∀ p ∈ l, p.size ≤ 65536 := by
  unfold shortP at h
  simp only [Bool.and_eq_true, decide_eq_true_eq, List.all_eq_true] at h
  exact h
end Go.Proofs.YtjllbkeobibnkaaDoor.Q

namespace Go.Proofs.YtjllbkeobibnkaaDoorP
open Go Go.Lib
def sepC (c : UInt8) : List UInt8 → List (List UInt8)
  | [] => [[]]
  | b :: l => if b = c then [] :: sepC c l else match sepC c l with
    | [] => [[b]]
    | n :: ns => (b :: n) :: ns
theorem sepC_ne (c : UInt8) (l : List UInt8) : sepC c l ≠ [] := by
  cases l with
  | nil => simp [sepC]
  | cons b l =>
    unfold sepC
    split
    · simp
    · split <;> simp
theorem names_sepC (l : List UInt8) : names l = sepC 47 l := by
  induction l with
  | nil => rfl
  | cons b l ih =>
    rw [names, sepC, ih]
    all_goals
      by_cases h : b = 47
      · rw [if_pos h, if_pos h]
      · rw [if_neg h, if_neg h]
        cases sepC 47 l <;> rfl
/-- Two texts with the byte between. -/
theorem sepC_app (c : UInt8) (a b : List UInt8) : sepC c (a ++ c :: b) = sepC c a ++ sepC c b := by
  induction a with
  | nil => simp [sepC]
  | cons x a ih =>
    rw [List.cons_append, sepC, sepC, ih]
    by_cases h : x = c
    · rw [if_pos h, if_pos h]; rfl
    · rw [if_neg h, if_neg h]
      cases hs : sepC c a with
      | nil => exact absurd hs (sepC_ne c a)
      | cons n ns => rfl
theorem sepC_free (c : UInt8) (a : List UInt8) (h : c ∉ a) : sepC c a = [a] := by
  induction a with
  | nil => rfl
  | cons x a ih =>
    unfold sepC
    rw [if_neg (fun e => h (by rw [e]; exact List.mem_cons_self)), ih (fun hm => h (List.mem_cons_of_mem _ hm))]
end Go.Proofs.YtjllbkeobibnkaaDoorP

namespace Go.Proofs.YtjllbkeobibnkaaDoorK
open Go Go.Proofs
theorem bl_irrefl : ∀ x : List UInt8, Op.bytesLess x x = false
  | [] => rfl
  | a :: x => by
    have h := bl_irrefl x
    simp only [Op.bytesLess, h, Bool.and_false, Bool.or_false, decide_eq_false_iff_not]
    exact UInt8.lt_irrefl a
theorem bl_ne (x y : List UInt8) (h : Op.bytesLess y x = true) : (x == y) = false := by
  rw [beq_eq_false_iff_ne]
  rintro rfl
  rw [bl_irrefl] at h
  exact absurd h (by decide)
theorem bl_eq : ∀ x y : List UInt8, Op.bytesLess x y = false → Op.bytesLess y x = false → x = y
  | [], [] => fun _ _ => rfl
  | [], b :: y => fun h _ => absurd h (by simp [Op.bytesLess])
  | a :: x, [] => fun _ h => absurd h (by simp [Op.bytesLess])
  | a :: x, b :: y => fun h g => by
    simp only [Op.bytesLess, Bool.or_eq_false_iff, decide_eq_false_iff_not, Bool.and_eq_false_iff, beq_eq_false_iff_ne] at h g
    have hab : a = b := UInt8.le_antisymm (UInt8.not_lt.1 g.1) (UInt8.not_lt.1 h.1)
    subst hab
    rw [bl_eq x y (h.2.resolve_left (by simp)) (g.2.resolve_left (by simp))]
theorem bl_eqb (x y : List UInt8) (h : Op.bytesLess x y = false) (g : Op.bytesLess y x = false) : (x == y) = true := beq_iff_eq.2 (bl_eq x y h g)
@[go_sem] theorem binOp_string_gtr_k (t : TypeId) (a b : ByteArray) : binOp .gtr t (.string a) (.string b) = pure (.bool !(Op.bytesLess a.toList b.toList || a.toList == b.toList)) := by simp [binOp, Op.stringOp]
end Go.Proofs.YtjllbkeobibnkaaDoorK

namespace Go.Proofs.YtjllbkeobibnkaaDoor.Q
open Go.RowKit Go.Proofs.YtjllbkeobibnkaaDoorW.PrintWords Go.Proofs.YtjllbkeobibnkaaDoorW.PrintLast Go.Proofs.YtjllbkeobibnkaaDoorW.PrintMore Go.Proofs.YtjllbkeobibnkaaDoorK
attribute [local go_sem] max2_int min2_int max_two min_two max_three min_three max_four min_four   -- for this text's walks alone
attribute [local go_sem ↓] Go.Proofs.YtjllbkeobibnkaaDoorK.isSome_setCell
set_option linter.unusedVariables false
set_option linter.unusedSimpArgs false

def aquiferref05_Names.l0 : Nat → ByteArray → List ByteArray → Int → Option (List ByteArray)
  | 0, _, _, _ => none
  | k + 1, x0, x3, x4 => if x4 < (x0.size : Int) then (if 0 ≤ x4 then (if (bt x0 x4) = 47 then (if x3.length < 8796093022208 then (aquiferref05_Names.l0 k x0 (x3 ++ [(⟨#[]⟩ : ByteArray)]) (wrap64 (x4 + 1))) else (none)) else (if 0 ≤ (wrap64 ((x3.length : Int) - 1)) then (if (wrap64 ((x3.length : Int) - 1)) < (x3.length : Int) then (if x4 ≤ (wrap64 (x4 + 1)) then (if (wrap64 (x4 + 1)) ≤ (x0.size : Int) then (if (rdOf ByteArray.empty x3 (wrap64 ((x3.length : Int) - 1))).size + (x0.extract (x4 : Int).toNat ((wrap64 (x4 + 1)) : Int).toNat).size ≤ 9223372036854775807 then (aquiferref05_Names.l0 k x0 (x3.set ((wrap64 ((x3.length : Int) - 1)) : Int).toNat ((rdOf ByteArray.empty x3 (wrap64 ((x3.length : Int) - 1))) ++ (x0.extract (x4 : Int).toNat ((wrap64 (x4 + 1)) : Int).toNat))) (wrap64 (x4 + 1))) else (none)) else (none)) else (none)) else (none)) else (none))) else (none)) else (some x3)
def aquiferref05_Names.f (k : Nat) (a0 : ByteArray) : Option (List ByteArray) := aquiferref05_Names.l0 k a0 (([(⟨#[]⟩ : ByteArray)] : List ByteArray)) 0
def aquiferref05_Names.T7 : Bool × List (List Nat × List Nat) := (true, [([], []), ([], []), ([1], [1]), ([2], [2]), ([], []), ([], []), ([5], [5]), ([6], [6]), ([4, 7], [4, 7]), ([8], [8]), ([], []), ([], []), ([], []), ([12], [12]), ([10, 11, 13], [10, 11, 13]), ([9, 14], [9, 14]), ([0, 3, 0, 1, 2, 3, 4, 5, 6, 7, 8, 9, 10, 11, 12, 13, 14, 15], [0, 3]), ([16, 15, 0, 1, 2, 3, 4, 5, 6, 7, 8, 9, 10, 11, 12, 13, 14, 15], [15, 16])])
def aquiferref05_Names.B7 : List Nat := [0, 0, 2, 6, 0, 0, 32, 96, 240, 496, 0, 0, 0, 4096, 15360, 32752, 65535, 131071]
theorem aquiferref05_Names.tab7 : rtab .any (opsOf Tryd.f84 7) = aquiferref05_Names.T7 := by kernel_rfl
theorem aquiferref05_Names.bits7 : waitsOk aquiferref05_Names.T7.2 aquiferref05_Names.B7 = true := by kernel_rfl
set_option maxHeartbeats 8000000 in
set_option maxRecDepth 100000 in
theorem aquiferref05_Names.calls (k : Nat) (a0 : ByteArray) (r : List ByteArray) (w : World) (h : aquiferref05_Names.f k a0 = some r) :
    Calls Tryd.prog 84 #[.string a0] w fun e w' => ∃ v0_ : Value, e = .returned (v0_) ∧ Kd.R Kd.string 9 w' w.heap.size (fun _ => True) v0_ r ∧ Below w.heap.size w w' := by
  have HB := Aside0.mk (Below.refl w.heap.size w)
  have H : (aquiferref05_Names.l0 k a0 (([(⟨#[]⟩ : ByteArray)] : List ByteArray)) 0) = some r := h
  clear h
  obtain ⟨y101, hy101⟩ : ∃ y_ : List ByteArray, y_ = (([(⟨#[]⟩ : ByteArray)] : List ByteArray)) := ⟨_, rfl⟩
  replace H : (aquiferref05_Names.l0 k a0 y101 0) = some r := by first | (rw [hy101]; with_reducible exact H) | (have H2_ := (Option.bind_some _ _).symm.trans H; rw [hy101]; with_reducible exact H2_) | (have H2_ := (Option.bind_some _ _).symm.trans H; with_reducible exact H2_) | with_reducible exact H | (rw [hy101]; exact H) | exact H
  have Ny101 := Aside0.mk hy101
  clear hy101
  have H' := Aside0.mk H
  clear H
  go_enter Tryd.func84, Tryd.ntmps84
  go_wp2_with (first | ((with_reducible refine gate_dst (N := 5) rfl ?_); refine Kd.R_lit Kd.string _ 9 ?hg (N := 5) ?hd (xs := ([(⟨#[]⟩ : ByteArray)] : List ByteArray)) (inner := [.string (⟨#[]⟩ : ByteArray)]) (ok := fun _ => True) (okp := fun _ => True) ?hr ?hp (fun _ hk => hk) trivial (Below.refl _ _) (Nat.le_refl _) (by simp) ?_; (case hd => rfl); (case hg => rfl); (case hr => first | (go_simp; done) | (go_simp; rfl)); (case hp => exact (Reps.one (show Kd.M Kd.string _ _ _ (⟨#[]⟩ : ByteArray) [.string (⟨#[]⟩ : ByteArray)] from rfl) (Reps.none _ _))); intro v102 w2 ho3 hb hg_ hnew_; clear hg_ hnew_; (first | rw [← Ny101.out] at ho3 | (simp only [Int.reduceToNat] at ho3; rw [← Ny101.out] at ho3)); have n0_ := Aside0.mk (Kd.R_lower ho3 (sizU HB.out)); have n1_ := Aside0.mk (below_step (belU HB.out) hb); clear HB; have HO103 := n0_; have HB := n1_; clear n0_ n1_; clear hb ho3))
  go_loopg [3, 4] k (fun kq v3 v4 w' => ∃ (x3_1 : List ByteArray) (x4_1 : Int), v4 = .int .i64 x4_1 ∧ Aside0 (aquiferref05_Names.l0 kq a0 x3_1 x4_1 = some r) ∧ Aside0 (kq ≤ k) ∧ Aside0 (Kd.R Kd.string 9 w' w.heap.size (fun _ => True) v3 x3_1) ∧ Aside0 (Below w.heap.size w w'))
  case atStart => exact ⟨(y101), (0), (by first | rfl | (simp; done) | (simp [*]; done)), H', ⟨Nat.le_refl _⟩, ⟨RU HO103.out⟩, ⟨belU HB.out⟩⟩
  case round =>
    clear H'
    try clear p2
    obtain ⟨x3_1, x4_1, rfl, HA, HK1, HO_3, HB⟩ := hrel
    cases gk with
    | zero => exact absurd HA.out (by simp [aquiferref05_Names.l0])
    | succ k1 =>
      have H := HA.out
      clear HA
      simp only [aquiferref05_Names.l0] at H
      by_cases c4 : x4_1 < (a0.size : Int)
      · rw [if_pos c4] at H
        have c4b0 : decide (x4_1 < (a0.size : Int)) = true := decide_eq_true c4
        clear c4
        by_cases c5 : 0 ≤ x4_1
        · rw [if_pos c5] at H
          have c5b0 : decide (0 ≤ x4_1) = true := decide_eq_true c5
          clear c5
          by_cases c7 : (bt a0 x4_1) = 47
          · rw [if_pos c7] at H
            have c7b0 : ((bt a0 x4_1) == 47) = true := beq_iff_eq.mpr c7
            have c7b1 : ((bt a0 x4_1) != 47) = false := bne_eq_false_iff_eq.mpr c7
            clear c7
            by_cases c8 : x3_1.length < 8796093022208
            · rw [if_pos c8] at H
              have LMc8 := Aside0.mk c8
              clear c8
              obtain ⟨y104, hy104⟩ : ∃ y_ : List ByteArray, y_ = (x3_1 ++ [(⟨#[]⟩ : ByteArray)]) := ⟨_, rfl⟩
              replace H : (aquiferref05_Names.l0 k1 a0 y104 (wrap64 (x4_1 + 1))) = some r := by first | (rw [hy104]; with_reducible exact H) | (have H2_ := (Option.bind_some _ _).symm.trans H; rw [hy104]; with_reducible exact H2_) | (have H2_ := (Option.bind_some _ _).symm.trans H; with_reducible exact H2_) | with_reducible exact H | (rw [hy104]; exact H) | exact H
              have Ny104 := Aside0.mk hy104
              clear hy104
              have H' := Aside0.mk H
              clear H
              have p6 : 0 ≤ (x4_1 : Int) := of_decide_eq_true (by first | (with_reducible assumption) | assumption)
              have q6 : x4_1 < (a0.size : Int) := of_decide_eq_true (by first | (with_reducible assumption) | assumption)
              have hx6 := bt_at a0 x4_1
              replace p6 := eq_true p6
              replace q6 := eq_true q6
              go_wp2_with (first | ((with_reducible refine gate_builtin (b := .append) (xs := #[.tmp 16, .tmp 17]) rfl ?_); at_builtin; refine Kd.R_append Kd.string (w0 := w) w.heap.size rfl (.tmp 16) (.tmp 17) 41 9 (.string ⟨#[]⟩) 16 rfl Tryd.underlying41 info9 rfl (by decide) (by omega) u3 x3_1 (⟨#[]⟩ : ByteArray) [.string (⟨#[]⟩ : ByteArray)] (fun _ => True) (fun _ => False) rfl rfl ?aP (fun _ hk => hk.elim) ?aF ?aO ?aB ?aS ?aL ?_; (case aP => exact rfl); (case aB => exact (belU HB.out)); (case aF => exact (fun _ _ => trivial)); (case aO => exact (RU HO_3.out)); (case aS => exact (sizU HB.out)); (case aL => have := LMc8.out; omega); intro v105 w9 ho hb hg hat; rw [← Ny104.out] at ho; have n0_ := Aside0.mk (hb); have n1_ := Aside0.mk (ho); clear HB; clear HO_3; have HB := n0_; have HO106 := n1_; clear n0_ n1_; clear ho hb hg hat))
              go_roundg k1
              case measure => have := HK1.out; omega
              case rel => exact ⟨(y104), (wrap64 (x4_1 + 1)), (by first | rfl | (simp; done) | (simp [*]; done)), H', ⟨by have := HK1.out; omega⟩, ⟨RU HO106.out⟩, ⟨belU HB.out⟩⟩
            · rw [if_neg c8] at H
              exact absurd H (by simp)
          · rw [if_neg c7] at H
            have c7b0 : ((bt a0 x4_1) == 47) = false := beq_eq_false_iff_ne.mpr c7
            have c7b1 : ((bt a0 x4_1) != 47) = true := bne_iff_ne.mpr c7
            obtain ⟨ji10, hji10⟩ : ∃ j_ : Int, (wrap64 ((x3_1.length : Int) - 1)) = j_ := ⟨_, rfl⟩
            replace H : (if 0 ≤ (ji10) then (if (ji10) < (x3_1.length : Int) then (if x4_1 ≤ (wrap64 (x4_1 + 1)) then (if (wrap64 (x4_1 + 1)) ≤ (a0.size : Int) then (if (rdOf ByteArray.empty x3_1 (ji10)).size + (a0.extract (x4_1 : Int).toNat ((wrap64 (x4_1 + 1)) : Int).toNat).size ≤ 9223372036854775807 then (aquiferref05_Names.l0 k1 a0 (x3_1.set ((ji10) : Int).toNat ((rdOf ByteArray.empty x3_1 (ji10)) ++ (a0.extract (x4_1 : Int).toNat ((wrap64 (x4_1 + 1)) : Int).toNat))) (wrap64 (x4_1 + 1))) else (none)) else (none)) else (none)) else (none)) else (none)) = some r := by first | (rw [hji10] at H; exact H) | (simp only [hji10] at H ⊢; exact H)
            have hji10w : (IntKind.i64.wrap ((x3_1.length : Int) - 1)) = ji10 := (i64_w _).trans hji10
            by_cases c11 : 0 ≤ (ji10)
            · rw [if_pos c11] at H
              have c11b0 : decide (0 ≤ (ji10)) = true := decide_eq_true c11
              clear c11
              by_cases c12 : (ji10) < (x3_1.length : Int)
              · rw [if_pos c12] at H
                have c12b0 : decide ((ji10) < (x3_1.length : Int)) = true := decide_eq_true c12
                clear c12
                have c13b0 := eq_true (of_decide_eq_true (by first | (with_reducible assumption) | assumption) : 0 ≤ x4_1)
                by_cases c14 : x4_1 ≤ (wrap64 (x4_1 + 1))
                · rw [if_pos c14] at H
                  have c14b0 := eq_true c14
                  have c14b1 : decide (x4_1 ≤ (wrap64 (x4_1 + 1))) = true := decide_eq_true c14
                  by_cases c15 : (wrap64 (x4_1 + 1)) ≤ (a0.size : Int)
                  · rw [if_pos c15] at H
                    have c15b0 := eq_true c15
                    have c15b1 : decide ((wrap64 (x4_1 + 1)) ≤ (a0.size : Int)) = true := decide_eq_true c15
                    by_cases c16 : (rdOf ByteArray.empty x3_1 (ji10)).size + (a0.extract (x4_1 : Int).toNat ((wrap64 (x4_1 + 1)) : Int).toNat).size ≤ 9223372036854775807
                    · rw [if_pos c16] at H
                      have c16b0 := eq_true c16
                      have c16b1 : decide ((rdOf ByteArray.empty x3_1 (ji10)).size + (a0.extract (x4_1 : Int).toNat ((wrap64 (x4_1 + 1)) : Int).toNat).size ≤ 9223372036854775807) = true := decide_eq_true c16
                      try have c16b2 : (9223372036854775807 < (rdOf ByteArray.empty x3_1 (ji10)).size + (a0.extract (x4_1 : Int).toNat ((wrap64 (x4_1 + 1)) : Int).toNat).size) = False := eq_false (Nat.not_lt.2 c16)
                      try have c16b3 : (9223372036854775807 < (rdOf ByteArray.empty x3_1 (ji10)).size + (((wrap64 (x4_1 + 1)) : Int).toNat - (x4_1 : Int).toNat)) = False := eq_false (by have h_ := c16; simp only [ByteArray.size_extract] at h_; omega)
                      try have c16b3 : (9223372036854775807 < (rdOf ByteArray.empty x3_1 (ji10)).size + (((wrap64 (x4_1 + 1)) : Int).toNat - (x4_1 : Int).toNat)) = False := eq_false (by have h_ := c16; simp only [ByteArray.size_extract] at h_; omega)
                      obtain ⟨y108, hy108⟩ : ∃ y_ : List ByteArray, y_ = (x3_1.set ((ji10) : Int).toNat ((rdOf ByteArray.empty x3_1 (ji10)) ++ (a0.extract (x4_1 : Int).toNat ((wrap64 (x4_1 + 1)) : Int).toNat))) := ⟨_, rfl⟩
                      replace H : (aquiferref05_Names.l0 k1 a0 y108 (wrap64 (x4_1 + 1))) = some r := by first | (rw [hy108]; with_reducible exact H) | (have H2_ := (Option.bind_some _ _).symm.trans H; rw [hy108]; with_reducible exact H2_) | (have H2_ := (Option.bind_some _ _).symm.trans H; with_reducible exact H2_) | with_reducible exact H | (rw [hy108]; exact H) | exact H
                      have Ny108 := Aside0.mk hy108
                      clear hy108
                      have H' := Aside0.mk H
                      clear H
                      have p6 : 0 ≤ (x4_1 : Int) := of_decide_eq_true (by first | (with_reducible assumption) | assumption)
                      have q6 : x4_1 < (a0.size : Int) := of_decide_eq_true (by first | (with_reducible assumption) | assumption)
                      have hx6 := bt_at a0 x4_1
                      replace p6 := eq_true p6
                      replace q6 := eq_true q6
                      try go_wp2
                      have n0_ := Aside0.mk (Kd.R_drew HO_3.out)
                      have n1_ := Aside0.mk (below_drew1 HB.out)
                      clear HO_3
                      clear HB
                      have HO_3 := n0_
                      have HB := n1_
                      clear n0_ n1_
                      obtain ⟨Ao19, co19, eo19⟩ := Kd.R_slice HO_3.out
                      (first | subst eo19 | (injection eo19 with f1_ f2_ f3_; have f4_ := f1_.symm; have f5_ := f3_.symm; clear f1_ f2_ f3_; subst f4_; subst f5_))
                      have p107 : 0 ≤ ((ji10) : Int) := of_decide_eq_true (by first | (with_reducible assumption) | assumption)
                      have q107 : (ji10) < (x3_1.length : Int) := of_decide_eq_true (by first | (with_reducible assumption) | assumption)
                      obtain ⟨ad107, e107, hx107_0⟩ := Kd.at_string (Kd.R_reads' HO_3.out).2.2 (ji10) p107 q107
                      cases e107
                      replace p107 := eq_true p107
                      replace q107 := eq_true q107
                      have p17 : 0 ≤ ((ji10) : Int) := of_decide_eq_true (by first | (with_reducible assumption) | assumption)
                      have q17 : ((ji10) : Int) < ((x3_1.length : Int) : Int) := of_decide_eq_true (by first | (with_reducible assumption) | assumption)
                      obtain ⟨go17, co17, eo17, gb17, gl17, cl17, HG17⟩ := Kd.R_form HO_3.out (by omega)
                      (first | cases eo17 | (injection eo17 with ea_ en_ ec_; (first | subst ea_ | (injection ea_ with ea_; subst ea_)); subst ec_; clear en_))
                      have GB17 := Aside0.mk gb17
                      have GG17 := Aside0.mk HG17
                      clear gb17 gl17 HG17
                      (first | simp only [add_plain] at hx107_0 | skip)
                      obtain ⟨hx17_0, hf17_0⟩ := Kd.R_celln (⟨#[]⟩ : ByteArray) HO_3.out ((ji10) : Int) p17 q17
                      replace p17 := eq_true p17
                      replace q17 := eq_true q17
                      have HP20 := Kd.R_putn HO_3.out ((ji10) : Int) ((rdOf ByteArray.empty x3_1 (ji10)) ++ (a0.extract (x4_1 : Int).toNat ((wrap64 (x4_1 + 1)) : Int).toNat))
                      rw [← Ny108.out] at HP20
                      have HQ20 := Aside0.mk HP20
                      clear HP20
                      refine start_ (n := 18) (S := fun w' => w'.cell? ⟨go17, ((ji10)).toNat, none⟩ = some (.string (rdOf ByteArray.empty x3_1 (ji10)))) (ds := [17]) #[false, false, false, false, false, false, false, false, false, false, false, false, false, false, false, false, false, false] (by kernel_rfl) rfl rfl (hx107_0) (fun hHeld => ?_); refine with_tabW aquiferref05_Names.tab7 aquiferref05_Names.bits7 (fun HT_ HW_ => ?_)
                      generalize wr.drew = w18 at HO_3 HB GG17 HQ20 hf17_0 hx107_0 hx17_0 hHeld ⊢
                      refine pure_ (i := 0) (N := some 19) (v := ?_) (a' := ?_) #[true, false, false, false, false, false, false, false, false, false, false, false, false, false, false, false, false, false] rfl rfl (any_of HT_.out (by kernel_rfl)) (fun _ _ _ h => h) (Or.inl ⟨by rfl, ?_⟩) ?_ ?_
                      rotate_left
                      · intro w'
                        go_simp
                        with_reducible rfl
                      rotate_left
                      · simp only [Act.put, List.setIfInBounds_toArray, List.set_cons_zero, List.set_cons_succ, i64_w, i32_w]
                        rfl
                      refine pure_ (i := 1) (N := some 20) (v := ?_) (a' := ?_) #[true, true, false, false, false, false, false, false, false, false, false, false, false, false, false, false, false, false] rfl rfl (any_of HT_.out (by kernel_rfl)) (fun _ _ _ h => h) (Or.inl ⟨by rfl, ?_⟩) ?_ ?_
                      rotate_left
                      · intro w'
                        go_simp
                        with_reducible rfl
                      rotate_left
                      · simp only [Act.put, List.setIfInBounds_toArray, List.set_cons_zero, List.set_cons_succ, i64_w, i32_w]
                        rfl
                      refine pure_ (i := 2) (N := some 21) (v := ?_) (a' := ?_) #[true, true, true, false, false, false, false, false, false, false, false, false, false, false, false, false, false, false] rfl rfl (any_of HT_.out (by kernel_rfl)) (fun _ _ _ h => h) (Or.inl ⟨by rfl, ?_⟩) ?_ ?_
                      rotate_left
                      · intro w'
                        go_simp
                        with_reducible rfl
                      rotate_left
                      · simp only [Act.put, List.setIfInBounds_toArray, List.set_cons_zero, List.set_cons_succ, i64_w, i32_w]
                        rfl
                      refine pure_ (i := 3) (N := some 22) (v := ?_) (a' := ?_) #[true, true, true, true, false, false, false, false, false, false, false, false, false, false, false, false, false, false] rfl rfl (any_of HT_.out (by kernel_rfl)) (fun _ _ _ h => h) (Or.inl ⟨by rfl, ?_⟩) ?_ ?_
                      rotate_left
                      · intro w'
                        go_simp
                        with_reducible rfl
                      rotate_left
                      · simp only [Act.put, List.setIfInBounds_toArray, List.set_cons_zero, List.set_cons_succ, i64_w, i32_w]
                        rfl
                      refine pure_ (i := 4) (N := some 23) (v := ?_) (a' := ?_) #[true, true, true, true, true, false, false, false, false, false, false, false, false, false, false, false, false, false] rfl rfl (any_of HT_.out (by kernel_rfl)) (fun _ _ _ h => h) (Or.inl ⟨by rfl, ?_⟩) ?_ ?_
                      rotate_left
                      · intro w'
                        go_simp
                        with_reducible rfl
                      rotate_left
                      · simp only [Act.put, List.setIfInBounds_toArray, List.set_cons_zero, List.set_cons_succ, i64_w, i32_w]
                        rfl
                      refine pure_ (i := 5) (N := some 24) (v := ?_) (a' := ?_) #[true, true, true, true, true, true, false, false, false, false, false, false, false, false, false, false, false, false] rfl rfl (any_of HT_.out (by kernel_rfl)) (fun _ _ _ h => h) (Or.inl ⟨by rfl, ?_⟩) ?_ ?_
                      rotate_left
                      · intro w'
                        go_simp
                        with_reducible rfl
                      rotate_left
                      · simp only [Act.put, List.setIfInBounds_toArray, List.set_cons_zero, List.set_cons_succ, i64_w, i32_w]
                        rfl
                      refine pure_ (i := 6) (N := some 25) (v := ?_) (a' := ?_) #[true, true, true, true, true, true, true, false, false, false, false, false, false, false, false, false, false, false] rfl rfl (any_of HT_.out (by kernel_rfl)) (fun _ _ _ h => h) (Or.inl ⟨by rfl, ?_⟩) ?_ ?_
                      rotate_left
                      · intro w'
                        go_simp
                        with_reducible rfl
                      rotate_left
                      · simp only [Act.put, List.setIfInBounds_toArray, List.set_cons_zero, List.set_cons_succ, i64_w, i32_w]
                        rfl
                      refine pure_ (i := 7) (N := some 26) (v := ?_) (a' := ?_) #[true, true, true, true, true, true, true, true, false, false, false, false, false, false, false, false, false, false] rfl rfl (any_of HT_.out (by kernel_rfl)) (fun _ _ _ h => h) (Or.inl ⟨by rfl, ?_⟩) ?_ ?_
                      rotate_left
                      · intro w'
                        go_simp
                        with_reducible rfl
                      rotate_left
                      · simp only [Act.put, List.setIfInBounds_toArray, List.set_cons_zero, List.set_cons_succ, i64_w, i32_w]
                        rfl
                      refine pure_ (i := 8) (N := some 27) (v := ?_) (a' := ?_) #[true, true, true, true, true, true, true, true, true, false, false, false, false, false, false, false, false, false] rfl rfl (any_of HT_.out (by kernel_rfl)) (fun _ _ _ h => h) (Or.inl ⟨by rfl, ?_⟩) ?_ ?_
                      rotate_left
                      · intro w'
                        go_simp
                        with_reducible rfl
                      rotate_left
                      · simp only [Act.put, List.setIfInBounds_toArray, List.set_cons_zero, List.set_cons_succ, i64_w, i32_w]
                        rfl
                      refine pure_ (i := 10) (N := some 29) (v := ?_) (a' := ?_) #[true, true, true, true, true, true, true, true, true, false, true, false, false, false, false, false, false, false] rfl rfl (any_of HT_.out (by kernel_rfl)) (fun _ _ _ h => h) (Or.inl ⟨by rfl, ?_⟩) ?_ ?_
                      rotate_left
                      · intro w'
                        go_simp
                        with_reducible rfl
                      rotate_left
                      · simp only [Act.put, List.setIfInBounds_toArray, List.set_cons_zero, List.set_cons_succ, i64_w, i32_w]
                        rfl
                      refine pure_ (i := 11) (N := some 30) (v := ?_) (a' := ?_) #[true, true, true, true, true, true, true, true, true, false, true, true, false, false, false, false, false, false] rfl rfl (any_of HT_.out (by kernel_rfl)) (fun _ _ _ h => h) (Or.inl ⟨by rfl, ?_⟩) ?_ ?_
                      rotate_left
                      · intro w'
                        go_simp
                        with_reducible rfl
                      rotate_left
                      · simp only [Act.put, List.setIfInBounds_toArray, List.set_cons_zero, List.set_cons_succ, i64_w, i32_w]
                        rfl
                      refine pure_ (i := 12) (N := some 31) (v := ?_) (a' := ?_) #[true, true, true, true, true, true, true, true, true, false, true, true, true, false, false, false, false, false] rfl rfl (any_of HT_.out (by kernel_rfl)) (fun _ _ _ h => h) (Or.inl ⟨by rfl, ?_⟩) ?_ ?_
                      rotate_left
                      · intro w'
                        go_simp
                        with_reducible rfl
                      rotate_left
                      · simp only [Act.put, List.setIfInBounds_toArray, List.set_cons_zero, List.set_cons_succ, i64_w, i32_w]
                        rfl
                      refine pure_ (i := 13) (N := some 32) (v := ?_) (a' := ?_) #[true, true, true, true, true, true, true, true, true, false, true, true, true, true, false, false, false, false] rfl rfl (any_of HT_.out (by kernel_rfl)) (fun _ _ _ h => h) (Or.inl ⟨by rfl, ?_⟩) ?_ ?_
                      rotate_left
                      · intro w'
                        go_simp
                        with_reducible rfl
                      rotate_left
                      · simp only [Act.put, List.setIfInBounds_toArray, List.set_cons_zero, List.set_cons_succ, i64_w, i32_w]
                        rfl
                      refine pure_ (i := 14) (N := some 33) (v := ?_) (a' := ?_) #[true, true, true, true, true, true, true, true, true, false, true, true, true, true, true, false, false, false] rfl rfl (any_of HT_.out (by kernel_rfl)) (fun _ _ _ h => h) (Or.inl ⟨by rfl, ?_⟩) ?_ ?_
                      rotate_left
                      · intro w'
                        go_simp
                        with_reducible rfl
                      rotate_left
                      · simp only [Act.put, List.setIfInBounds_toArray, List.set_cons_zero, List.set_cons_succ, i64_w, i32_w]
                        rfl
                      refine take_ (i := 9) (N := some 28) (v := ?_) (a' := ?_) #[true, true, true, true, true, true, true, true, true, true, true, true, true, true, true, false, false, false] rfl rfl (take_ofW HT_.out HW_.out (by kernel_rfl)) (fun _ _ _ h => h) (Or.inl ⟨by rfl, ?_⟩) hHeld ?_ ?_
                      rotate_left
                      · intro w' s0
                        go_simp
                        with_reducible rfl
                      rotate_left
                      · simp only [Act.put, List.setIfInBounds_toArray, List.set_cons_zero, List.set_cons_succ, i64_w, i32_w]
                        rfl
                      refine pure_ (i := 15) (N := some 34) (v := ?_) (a' := ?_) #[true, true, true, true, true, true, true, true, true, true, true, true, true, true, true, true, false, false] rfl rfl (any_of HT_.out (by kernel_rfl)) (fun _ _ _ h => h) (Or.inl ⟨by rfl, ?_⟩) ?_ ?_
                      rotate_left
                      · intro w'
                        go_simp
                        with_reducible rfl
                      rotate_left
                      · simp only [Act.put, List.setIfInBounds_toArray, List.set_cons_zero, List.set_cons_succ, i64_w, i32_w]
                        rfl
                      refine pure_ (i := 16) (N := some 35) (v := ?_) (a' := ?_) #[true, true, true, true, true, true, true, true, true, true, true, true, true, true, true, true, true, false] rfl rfl (any_of HT_.out (by kernel_rfl)) (fun _ _ _ h => h) (Or.inl ⟨by rfl, ?_⟩) ?_ ?_
                      rotate_left
                      · intro w'
                        go_simp
                        with_reducible rfl
                      rotate_left
                      · simp only [Act.put, List.setIfInBounds_toArray, List.set_cons_zero, List.set_cons_succ, i64_w, i32_w]
                        rfl
                      refine last_ (i := 17) (N := none) #[true, true, true, true, true, true, true, true, true, true, true, true, true, true, true, true, true, true] rfl rfl (one_of HT_.out (by kernel_rfl)) (by decide) (fun K hK => ?_)
                      refine skip_ (w1 := ?_) (by rfl) rfl ?_ ?_
                      rotate_left
                      · go_simp
                        rfl
                      refine hK.out _ _ ?_
                      clear hK K
                      refine done_ (done_of HT_.out (by kernel_rfl)) ?_
                      try go_wp2
                      go_roundg k1
                      case measure => have := HK1.out; omega
                      case rel => exact ⟨(y108), (wrap64 (x4_1 + 1)), (by first | rfl | (simp; done) | (simp [*]; done)), H', ⟨by have := HK1.out; omega⟩, ⟨RU HQ20.out⟩, ⟨belG HB.out GB17.out⟩⟩
                    · rw [if_neg c16] at H
                      exact absurd H (by simp)
                  · rw [if_neg c15] at H
                    exact absurd H (by simp)
                · rw [if_neg c14] at H
                  exact absurd H (by simp)
              · rw [if_neg c12] at H
                exact absurd H (by simp)
            · rw [if_neg c11] at H
              exact absurd H (by simp)
        · rw [if_neg c5] at H
          exact absurd H (by simp)
      · rw [if_neg c4] at H
        have c4b0 : decide (x4_1 < (a0.size : Int)) = false := decide_eq_false c4
        clear c4
        obtain rfl := Option.some.inj H
        go_wp2
        go_ret
        exact ⟨_, by first | rfl | (simp [errW_none, errW_some] <;> rfl) | (simp [*, errW_none, errW_some] <;> rfl), by (with_reducible repeat (first | apply Kd.R_alloc | apply Kd.R_drewN | apply Kd.R_drew)); exact HO_3.out, belU HB.out⟩

end Go.Proofs.YtjllbkeobibnkaaDoor.Q
