/-
  NARROWER THAN 'FOR EVERY INPUT', by the rows' own cells (each row's printed sentence says how): LruTells: laid · LruRoom: laid · LruShuffled: laid · LruVictims: laid · LruSpare: laid.
  DERIVED. THE GIVEN ROWS OF THIS SEAT. 5 by the template 'for every input the law returns true; each argument reads behind the call as it read before'; 0 by the template 'total and deterministic' (their statements: YtdggdmdefmljlaaDoorTotals.lean).
  GIVEN WITH THE SEED: the statements are not yours to turn. If you find one false, say at which input.
  Laid BY PROGRAM, IN A SANDBOX (cutbox-rows.mjs): the forced cells as the released guide's own fill.sh prints them over the translation 9836178784b6bba6… (all of the seat's roots in one cut). By AI agents, Wed Nov 11 2026. No macro, syntax, notation, axiom, sorry.
-/
import Derived.Test.YtdggdmdefmljlaaDoorChecked
import GoSem.PinnedTables
import GoSem.Claim
import GoSem.ClaimJoined
import GoSem.ClaimMapViews
import Derived.JoinedTies
import Derived.KernelRfl
namespace Go.Proofs.YtdggdmdefmljlaaDoor
/- THE CELL 'sum', in the pinned program and in every row, IS THE sha256 OF THE DUMP (.gsa) THAT YtdggdmdefmljlaaDoorProg.lean LOADS. Nothing in Lean hashes anything: it is a label: what it is worth is what the hold of that sum in a sandbox is worth. -/
noncomputable def Tryd.pinned : Pinned := { name := "ytdggdmdefmljlaadoor", sum := "9836178784b6bba6f98c839c6f4835d9cc344fbb6ef30bd4a890ab70e77d4d8f", checked := Tryd.checked }
namespace Rows
def none {H : Type} : Left H := { results := [], args := [] }

/- WHAT THE LISTED PACKAGE-LEVEL VARIABLES READ AS WHEN THE CALL BEGINS. Each datum BY PROGRAM (the guide's laid-datum.mjs) off the statement by which the dump's own 'gosem.cut.vars' lays the variable. In a bare row this is a premise. The card (YtdggdmdefmljlaaDoorCards.lean) ties it to the program's text. -/
def laid_unicode_utf8_acceptRanges {H : Type} : DataW H := .agg [.agg [.lit (.int .u8 128), .lit (.int .u8 191)], .agg [.lit (.int .u8 160), .lit (.int .u8 191)], .agg [.lit (.int .u8 128), .lit (.int .u8 159)], .agg [.lit (.int .u8 144), .lit (.int .u8 191)], .agg [.lit (.int .u8 128), .lit (.int .u8 143)], .agg [.lit (.int .u8 0), .lit (.int .u8 0)], .agg [.lit (.int .u8 0), .lit (.int .u8 0)], .agg [.lit (.int .u8 0), .lit (.int .u8 0)], .agg [.lit (.int .u8 0), .lit (.int .u8 0)], .agg [.lit (.int .u8 0), .lit (.int .u8 0)], .agg [.lit (.int .u8 0), .lit (.int .u8 0)], .agg [.lit (.int .u8 0), .lit (.int .u8 0)], .agg [.lit (.int .u8 0), .lit (.int .u8 0)], .agg [.lit (.int .u8 0), .lit (.int .u8 0)], .agg [.lit (.int .u8 0), .lit (.int .u8 0)], .agg [.lit (.int .u8 0), .lit (.int .u8 0)]]
/-- One of Go's own tables, pinned by name: the form's constant. -/
def laid_unicode_utf8_first : DataW Unit := Go.Pinned.utf8First

/-- 'aquiferlaw26.LruTells': WHATEVER THE INPUT: true; the input reads as it did. -/
def lruTellsSpec : ChangeSpec := { name := "lruTells", fn := fun _ => fun
  | [d] => { results := [.lit (.bool true)], args := [d] }
  | _ => none }
def lruTellsRow : OpenClaim := { program := "ytdggdmdefmljlaadoor", sum := "9836178784b6bba6f98c839c6f4835d9cc344fbb6ef30bd4a890ab70e77d4d8f", func := "aquifer/aquiferlaw26.LruTells", spec := "lruTells", inPlace := ["internal/bytealg.CountString", "internal/bytealg.IndexByteString", "internal/bytealg.IndexString", "internal/bytealg.abigen_runtime_cmpstring"], unfollowed := true, recurses := true, named := ["unicode/utf8.first", "unicode/utf8.acceptRanges", "internal/bytealg.MaxLen"], apart := false, laid := [("unicode/utf8.acceptRanges", laid_unicode_utf8_acceptRanges), ("unicode/utf8.first", laid_unicode_utf8_first)] }
def LruTellsSaid : Prop := lruTellsRow.holds Tryd.pinned (OpenSpec.ofChange lruTellsSpec)

/-- ITS FALSE NEIGHBOUR: 'it returns false'. Refute it at one input. -/
def lruTellsWrong : ChangeSpec := { name := "lruTells", fn := fun _ => fun
  | [d] => { results := [.lit (.bool false)], args := [d] }
  | _ => none }
def LruTellsWrongFalsely : Prop := lruTellsRow.holds Tryd.pinned (OpenSpec.ofChange lruTellsWrong)

/-- 'aquiferlaw26.LruRoom': WHATEVER THE INPUT: true; the input reads as it did. -/
def lruRoomSpec : ChangeSpec := { name := "lruRoom", fn := fun _ => fun
  | [d1, d2, d3] => { results := [.lit (.bool true)], args := [d1, d2, d3] }
  | _ => none }
def lruRoomRow : OpenClaim := { program := "ytdggdmdefmljlaadoor", sum := "9836178784b6bba6f98c839c6f4835d9cc344fbb6ef30bd4a890ab70e77d4d8f", func := "aquifer/aquiferlaw26.LruRoom", spec := "lruRoom", inPlace := ["internal/bytealg.CountString", "internal/bytealg.IndexByteString", "internal/bytealg.IndexString", "internal/bytealg.abigen_runtime_cmpstring"], unfollowed := true, recurses := true, named := ["unicode/utf8.first", "unicode/utf8.acceptRanges", "internal/bytealg.MaxLen"], apart := false, laid := [("unicode/utf8.acceptRanges", laid_unicode_utf8_acceptRanges), ("unicode/utf8.first", laid_unicode_utf8_first)] }
def LruRoomSaid : Prop := lruRoomRow.holds Tryd.pinned (OpenSpec.ofChange lruRoomSpec)

/-- ITS FALSE NEIGHBOUR: 'it returns false'. Refute it at one input. -/
def lruRoomWrong : ChangeSpec := { name := "lruRoom", fn := fun _ => fun
  | [d1, d2, d3] => { results := [.lit (.bool false)], args := [d1, d2, d3] }
  | _ => none }
def LruRoomWrongFalsely : Prop := lruRoomRow.holds Tryd.pinned (OpenSpec.ofChange lruRoomWrong)

/-- 'aquiferlaw26.LruShuffled': WHATEVER THE INPUT: true; the input reads as it did. -/
def lruShuffledSpec : ChangeSpec := { name := "lruShuffled", fn := fun _ => fun
  | [d1, d2, d3] => { results := [.lit (.bool true)], args := [d1, d2, d3] }
  | _ => none }
def lruShuffledRow : OpenClaim := { program := "ytdggdmdefmljlaadoor", sum := "9836178784b6bba6f98c839c6f4835d9cc344fbb6ef30bd4a890ab70e77d4d8f", func := "aquifer/aquiferlaw26.LruShuffled", spec := "lruShuffled", inPlace := ["internal/bytealg.CountString", "internal/bytealg.IndexByteString", "internal/bytealg.IndexString", "internal/bytealg.abigen_runtime_cmpstring"], unfollowed := true, recurses := true, named := ["unicode/utf8.first", "unicode/utf8.acceptRanges", "internal/bytealg.MaxLen"], apart := false, laid := [("unicode/utf8.acceptRanges", laid_unicode_utf8_acceptRanges), ("unicode/utf8.first", laid_unicode_utf8_first)] }
def LruShuffledSaid : Prop := lruShuffledRow.holds Tryd.pinned (OpenSpec.ofChange lruShuffledSpec)

/-- ITS FALSE NEIGHBOUR: 'it returns false'. Refute it at one input. -/
def lruShuffledWrong : ChangeSpec := { name := "lruShuffled", fn := fun _ => fun
  | [d1, d2, d3] => { results := [.lit (.bool false)], args := [d1, d2, d3] }
  | _ => none }
def LruShuffledWrongFalsely : Prop := lruShuffledRow.holds Tryd.pinned (OpenSpec.ofChange lruShuffledWrong)

/-- 'aquiferlaw26.LruVictims': WHATEVER THE INPUT: true; the input reads as it did. -/
def lruVictimsSpec : ChangeSpec := { name := "lruVictims", fn := fun _ => fun
  | [d1, d2, d3] => { results := [.lit (.bool true)], args := [d1, d2, d3] }
  | _ => none }
def lruVictimsRow : OpenClaim := { program := "ytdggdmdefmljlaadoor", sum := "9836178784b6bba6f98c839c6f4835d9cc344fbb6ef30bd4a890ab70e77d4d8f", func := "aquifer/aquiferlaw26.LruVictims", spec := "lruVictims", inPlace := ["internal/bytealg.CountString", "internal/bytealg.IndexByteString", "internal/bytealg.IndexString", "internal/bytealg.abigen_runtime_cmpstring"], unfollowed := true, recurses := true, named := ["unicode/utf8.first", "unicode/utf8.acceptRanges", "internal/bytealg.MaxLen"], apart := false, laid := [("unicode/utf8.acceptRanges", laid_unicode_utf8_acceptRanges), ("unicode/utf8.first", laid_unicode_utf8_first)] }
def LruVictimsSaid : Prop := lruVictimsRow.holds Tryd.pinned (OpenSpec.ofChange lruVictimsSpec)

/-- ITS FALSE NEIGHBOUR: 'it returns false'. Refute it at one input. -/
def lruVictimsWrong : ChangeSpec := { name := "lruVictims", fn := fun _ => fun
  | [d1, d2, d3] => { results := [.lit (.bool false)], args := [d1, d2, d3] }
  | _ => none }
def LruVictimsWrongFalsely : Prop := lruVictimsRow.holds Tryd.pinned (OpenSpec.ofChange lruVictimsWrong)

/-- 'aquiferlaw26.LruSpare': WHATEVER THE INPUT: true; the input reads as it did. -/
def lruSpareSpec : ChangeSpec := { name := "lruSpare", fn := fun _ => fun
  | [d1, d2, d3] => { results := [.lit (.bool true)], args := [d1, d2, d3] }
  | _ => none }
def lruSpareRow : OpenClaim := { program := "ytdggdmdefmljlaadoor", sum := "9836178784b6bba6f98c839c6f4835d9cc344fbb6ef30bd4a890ab70e77d4d8f", func := "aquifer/aquiferlaw26.LruSpare", spec := "lruSpare", inPlace := ["internal/bytealg.CountString", "internal/bytealg.IndexByteString", "internal/bytealg.IndexString", "internal/bytealg.abigen_runtime_cmpstring"], unfollowed := true, recurses := true, named := ["unicode/utf8.first", "unicode/utf8.acceptRanges", "internal/bytealg.MaxLen"], apart := false, laid := [("unicode/utf8.acceptRanges", laid_unicode_utf8_acceptRanges), ("unicode/utf8.first", laid_unicode_utf8_first)] }
def LruSpareSaid : Prop := lruSpareRow.holds Tryd.pinned (OpenSpec.ofChange lruSpareSpec)

/-- ITS FALSE NEIGHBOUR: 'it returns false'. Refute it at one input. -/
def lruSpareWrong : ChangeSpec := { name := "lruSpare", fn := fun _ => fun
  | [d1, d2, d3] => { results := [.lit (.bool false)], args := [d1, d2, d3] }
  | _ => none }
def LruSpareWrongFalsely : Prop := lruSpareRow.holds Tryd.pinned (OpenSpec.ofChange lruSpareWrong)

/- THE SECOND FORM. 'bulk': how many values and letters a reading holds, each counted each time it is reached (what is shared counts as often as it is met; a slice's spare places count too). A statement '..UptoSaid' is the law's where the arguments, and the package variables that the reading takes, are together of bulk at most 1048576: NARROWER than '..Said'. Prove '..Said' where nothing that the law and all that it calls make is longer than what came in: it says more and counts as full. Else prove '..UptoSaid'. A law counts once. -/
mutual
def uptoBulk {H : Type} : DataW H → Nat
  | .lit (.string bytes) => bytes.length + 1
  | .lit _ => 1
  | .nil => 1
  | .ptr d => uptoBulk d + 1
  | .slice elems spare => uptoBulkAll elems + uptoBulkAll spare + 1
  | .agg parts => uptoBulkAll parts + 1
  | .iface _ d => uptoBulk d + 1
  | .map entries => uptoBulkEntries entries + 1
  | .held _ => 1
def uptoBulkAll {H : Type} : List (DataW H) → Nat
  | [] => 0
  | d :: r => uptoBulk d + uptoBulkAll r
def uptoBulkEntries {H : Type} : List (Lit × DataW H) → Nat
  | [] => 0
  | x :: r => uptoBulkEntry x + uptoBulkEntries r
def uptoBulkEntry {H : Type} : Lit × DataW H → Nat
  | (.string bytes, d) => bytes.length + uptoBulk d + 1
  | (_, d) => uptoBulk d + 1
 end
def uptoSmall : (H : Type) → List (DataW H) → Bool := fun _ ds => decide (uptoBulkAll ds ≤ 1048576)
def OpenSpec.upto (s : _root_.Go.ChangeSpec) : _root_.Go.OpenSpec := { _root_.Go.OpenSpec.ofChange s with cond := some uptoSmall }

/-- 'aquiferlaw26.LruTells', WHERE WHAT IT READS IS OF BULK AT MOST 1048576: true; the input reads as it did. -/
def lruTellsUptoRow : OpenClaim := { program := "ytdggdmdefmljlaadoor", sum := "9836178784b6bba6f98c839c6f4835d9cc344fbb6ef30bd4a890ab70e77d4d8f", func := "aquifer/aquiferlaw26.LruTells", spec := "lruTells", inPlace := ["internal/bytealg.CountString", "internal/bytealg.IndexByteString", "internal/bytealg.IndexString", "internal/bytealg.abigen_runtime_cmpstring"], unfollowed := true, recurses := true, named := ["unicode/utf8.first", "unicode/utf8.acceptRanges", "internal/bytealg.MaxLen"], apart := false, laid := [("unicode/utf8.acceptRanges", laid_unicode_utf8_acceptRanges), ("unicode/utf8.first", laid_unicode_utf8_first)], narrowed := true }
def LruTellsUptoSaid : Prop := lruTellsUptoRow.holds Tryd.pinned (OpenSpec.upto lruTellsSpec)

/-- 'aquiferlaw26.LruRoom', WHERE WHAT IT READS IS OF BULK AT MOST 1048576: true; the input reads as it did. -/
def lruRoomUptoRow : OpenClaim := { program := "ytdggdmdefmljlaadoor", sum := "9836178784b6bba6f98c839c6f4835d9cc344fbb6ef30bd4a890ab70e77d4d8f", func := "aquifer/aquiferlaw26.LruRoom", spec := "lruRoom", inPlace := ["internal/bytealg.CountString", "internal/bytealg.IndexByteString", "internal/bytealg.IndexString", "internal/bytealg.abigen_runtime_cmpstring"], unfollowed := true, recurses := true, named := ["unicode/utf8.first", "unicode/utf8.acceptRanges", "internal/bytealg.MaxLen"], apart := false, laid := [("unicode/utf8.acceptRanges", laid_unicode_utf8_acceptRanges), ("unicode/utf8.first", laid_unicode_utf8_first)], narrowed := true }
def LruRoomUptoSaid : Prop := lruRoomUptoRow.holds Tryd.pinned (OpenSpec.upto lruRoomSpec)

/-- 'aquiferlaw26.LruShuffled', WHERE WHAT IT READS IS OF BULK AT MOST 1048576: true; the input reads as it did. -/
def lruShuffledUptoRow : OpenClaim := { program := "ytdggdmdefmljlaadoor", sum := "9836178784b6bba6f98c839c6f4835d9cc344fbb6ef30bd4a890ab70e77d4d8f", func := "aquifer/aquiferlaw26.LruShuffled", spec := "lruShuffled", inPlace := ["internal/bytealg.CountString", "internal/bytealg.IndexByteString", "internal/bytealg.IndexString", "internal/bytealg.abigen_runtime_cmpstring"], unfollowed := true, recurses := true, named := ["unicode/utf8.first", "unicode/utf8.acceptRanges", "internal/bytealg.MaxLen"], apart := false, laid := [("unicode/utf8.acceptRanges", laid_unicode_utf8_acceptRanges), ("unicode/utf8.first", laid_unicode_utf8_first)], narrowed := true }
def LruShuffledUptoSaid : Prop := lruShuffledUptoRow.holds Tryd.pinned (OpenSpec.upto lruShuffledSpec)

/-- 'aquiferlaw26.LruVictims', WHERE WHAT IT READS IS OF BULK AT MOST 1048576: true; the input reads as it did. -/
def lruVictimsUptoRow : OpenClaim := { program := "ytdggdmdefmljlaadoor", sum := "9836178784b6bba6f98c839c6f4835d9cc344fbb6ef30bd4a890ab70e77d4d8f", func := "aquifer/aquiferlaw26.LruVictims", spec := "lruVictims", inPlace := ["internal/bytealg.CountString", "internal/bytealg.IndexByteString", "internal/bytealg.IndexString", "internal/bytealg.abigen_runtime_cmpstring"], unfollowed := true, recurses := true, named := ["unicode/utf8.first", "unicode/utf8.acceptRanges", "internal/bytealg.MaxLen"], apart := false, laid := [("unicode/utf8.acceptRanges", laid_unicode_utf8_acceptRanges), ("unicode/utf8.first", laid_unicode_utf8_first)], narrowed := true }
def LruVictimsUptoSaid : Prop := lruVictimsUptoRow.holds Tryd.pinned (OpenSpec.upto lruVictimsSpec)

/-- 'aquiferlaw26.LruSpare', WHERE WHAT IT READS IS OF BULK AT MOST 1048576: true; the input reads as it did. -/
def lruSpareUptoRow : OpenClaim := { program := "ytdggdmdefmljlaadoor", sum := "9836178784b6bba6f98c839c6f4835d9cc344fbb6ef30bd4a890ab70e77d4d8f", func := "aquifer/aquiferlaw26.LruSpare", spec := "lruSpare", inPlace := ["internal/bytealg.CountString", "internal/bytealg.IndexByteString", "internal/bytealg.IndexString", "internal/bytealg.abigen_runtime_cmpstring"], unfollowed := true, recurses := true, named := ["unicode/utf8.first", "unicode/utf8.acceptRanges", "internal/bytealg.MaxLen"], apart := false, laid := [("unicode/utf8.acceptRanges", laid_unicode_utf8_acceptRanges), ("unicode/utf8.first", laid_unicode_utf8_first)], narrowed := true }
def LruSpareUptoSaid : Prop := lruSpareUptoRow.holds Tryd.pinned (OpenSpec.upto lruSpareSpec)

end Rows
end Go.Proofs.YtdggdmdefmljlaaDoor
