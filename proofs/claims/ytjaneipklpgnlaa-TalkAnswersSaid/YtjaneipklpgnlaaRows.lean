/-
  No cell of these rows narrows 'for every input' (looked for: loops, veiled, ifaces, maps, wideKeys, modest, calm, conditions, laid).
  DERIVED. THE GIVEN ROWS OF THIS SEAT. 5 by the template 'for every input the law returns true; each argument reads behind the call as it read before'; 0 by the template 'total and deterministic' (their statements: YtjaneipklpgnlaaTotals.lean).
  GIVEN WITH THE SEED: the statements are not yours to turn. If you find one false, say at which input.
  Laid BY PROGRAM, IN A SANDBOX (cutbox-rows.mjs): the forced cells as the released guide's own fill.sh prints them over the translation 3f0574b93d4b6272… (all of the seat's roots in one cut). By AI agents, Wed Nov 11 2026. No macro, syntax, notation, axiom, sorry.
-/
import Derived.Test.YtjaneipklpgnlaaChecked
import GoSem.Claim
import GoSem.ClaimJoined
import GoSem.ClaimMapViews
import Derived.JoinedTies
import Derived.KernelRfl
namespace Go.Proofs.Ytjaneipklpgnlaa
/- THE CELL 'sum', in the pinned program and in every row, IS THE sha256 OF THE DUMP (.gsa) THAT YtjaneipklpgnlaaProg.lean LOADS. Nothing in Lean hashes anything: it is a label: what it is worth is what the hold of that sum in a sandbox is worth. -/
noncomputable def Try.pinned : Pinned := { name := "ytjaneipklpgnlaa", sum := "3f0574b93d4b6272ebb61ca08ec52d1fdd33100a2018a9a42ef0b95fbf7d555a", checked := Try.checked }
namespace Rows
def none {H : Type} : Left H := { results := [], args := [] }

/-- 'aquiferlaw20.TalkRequests': WHATEVER THE INPUT: true; the input reads as it did. -/
def talkRequestsSpec : ChangeSpec := { name := "talkRequests", fn := fun _ => fun
  | [d1, d2] => { results := [.lit (.bool true)], args := [d1, d2] }
  | _ => none }
def talkRequestsRow : OpenClaim := { program := "ytjaneipklpgnlaa", sum := "3f0574b93d4b6272ebb61ca08ec52d1fdd33100a2018a9a42ef0b95fbf7d555a", func := "aquifer/aquiferlaw20.TalkRequests", spec := "talkRequests", unfollowed := true, recurses := true, apart := false }
def TalkRequestsSaid : Prop := talkRequestsRow.holds Try.pinned (OpenSpec.ofChange talkRequestsSpec)

/-- ITS FALSE NEIGHBOUR: 'it returns false'. Refute it at one input. -/
def talkRequestsWrong : ChangeSpec := { name := "talkRequests", fn := fun _ => fun
  | [d1, d2] => { results := [.lit (.bool false)], args := [d1, d2] }
  | _ => none }
def TalkRequestsWrongFalsely : Prop := talkRequestsRow.holds Try.pinned (OpenSpec.ofChange talkRequestsWrong)

/-- 'aquiferlaw20.TalkCuts': WHATEVER THE INPUT: true; the input reads as it did. -/
def talkCutsSpec : ChangeSpec := { name := "talkCuts", fn := fun _ => fun
  | [d1, d2, d3] => { results := [.lit (.bool true)], args := [d1, d2, d3] }
  | _ => none }
def talkCutsRow : OpenClaim := { program := "ytjaneipklpgnlaa", sum := "3f0574b93d4b6272ebb61ca08ec52d1fdd33100a2018a9a42ef0b95fbf7d555a", func := "aquifer/aquiferlaw20.TalkCuts", spec := "talkCuts", unfollowed := true, recurses := true, apart := false }
def TalkCutsSaid : Prop := talkCutsRow.holds Try.pinned (OpenSpec.ofChange talkCutsSpec)

/-- ITS FALSE NEIGHBOUR: 'it returns false'. Refute it at one input. -/
def talkCutsWrong : ChangeSpec := { name := "talkCuts", fn := fun _ => fun
  | [d1, d2, d3] => { results := [.lit (.bool false)], args := [d1, d2, d3] }
  | _ => none }
def TalkCutsWrongFalsely : Prop := talkCutsRow.holds Try.pinned (OpenSpec.ofChange talkCutsWrong)

/-- 'aquiferlaw20.TalkAnswers': WHATEVER THE INPUT: true; the input reads as it did. -/
def talkAnswersSpec : ChangeSpec := { name := "talkAnswers", fn := fun _ => fun
  | [d1, d2] => { results := [.lit (.bool true)], args := [d1, d2] }
  | _ => none }
def talkAnswersRow : OpenClaim := { program := "ytjaneipklpgnlaa", sum := "3f0574b93d4b6272ebb61ca08ec52d1fdd33100a2018a9a42ef0b95fbf7d555a", func := "aquifer/aquiferlaw20.TalkAnswers", spec := "talkAnswers", unfollowed := true, recurses := true, apart := false }
def TalkAnswersSaid : Prop := talkAnswersRow.holds Try.pinned (OpenSpec.ofChange talkAnswersSpec)

/-- ITS FALSE NEIGHBOUR: 'it returns false'. Refute it at one input. -/
def talkAnswersWrong : ChangeSpec := { name := "talkAnswers", fn := fun _ => fun
  | [d1, d2] => { results := [.lit (.bool false)], args := [d1, d2] }
  | _ => none }
def TalkAnswersWrongFalsely : Prop := talkAnswersRow.holds Try.pinned (OpenSpec.ofChange talkAnswersWrong)

/-- 'aquiferlaw20.TalkBack': WHATEVER THE INPUT: true; the input reads as it did. -/
def talkBackSpec : ChangeSpec := { name := "talkBack", fn := fun _ => fun
  | [d1, d2, d3] => { results := [.lit (.bool true)], args := [d1, d2, d3] }
  | _ => none }
def talkBackRow : OpenClaim := { program := "ytjaneipklpgnlaa", sum := "3f0574b93d4b6272ebb61ca08ec52d1fdd33100a2018a9a42ef0b95fbf7d555a", func := "aquifer/aquiferlaw20.TalkBack", spec := "talkBack", unfollowed := true, recurses := true, apart := false }
def TalkBackSaid : Prop := talkBackRow.holds Try.pinned (OpenSpec.ofChange talkBackSpec)

/-- ITS FALSE NEIGHBOUR: 'it returns false'. Refute it at one input. -/
def talkBackWrong : ChangeSpec := { name := "talkBack", fn := fun _ => fun
  | [d1, d2, d3] => { results := [.lit (.bool false)], args := [d1, d2, d3] }
  | _ => none }
def TalkBackWrongFalsely : Prop := talkBackRow.holds Try.pinned (OpenSpec.ofChange talkBackWrong)

/-- 'aquiferlaw20.TalkOnce': WHATEVER THE INPUT: true; the input reads as it did. -/
def talkOnceSpec : ChangeSpec := { name := "talkOnce", fn := fun _ => fun
  | [d1, d2, d3] => { results := [.lit (.bool true)], args := [d1, d2, d3] }
  | _ => none }
def talkOnceRow : OpenClaim := { program := "ytjaneipklpgnlaa", sum := "3f0574b93d4b6272ebb61ca08ec52d1fdd33100a2018a9a42ef0b95fbf7d555a", func := "aquifer/aquiferlaw20.TalkOnce", spec := "talkOnce", unfollowed := true, recurses := true, apart := false }
def TalkOnceSaid : Prop := talkOnceRow.holds Try.pinned (OpenSpec.ofChange talkOnceSpec)

/-- ITS FALSE NEIGHBOUR: 'it returns false'. Refute it at one input. -/
def talkOnceWrong : ChangeSpec := { name := "talkOnce", fn := fun _ => fun
  | [d1, d2, d3] => { results := [.lit (.bool false)], args := [d1, d2, d3] }
  | _ => none }
def TalkOnceWrongFalsely : Prop := talkOnceRow.holds Try.pinned (OpenSpec.ofChange talkOnceWrong)

/- THE SECOND FORM. 'bulk': how many values and letters a reading holds, each counted each time it is reached (what is shared counts as often as it is met; a slice's spare places count too). A statement '..UptoSaid' is the law's where the arguments, and the package variables that the reading takes, are together of bulk at most 1048576: NARROWER than '..Said'. Prove '..Said' where nothing that the law and all that it calls make is longer than what came in: it says more and counts as full. Else prove '..UptoSaid'. A law counts once. -/
mutual
def uptoBulk {H : Type} : DataW H → Nat
  | .lit (.string bytes) => bytes.length + 1
  | .lit _ => 1
  | .nil => 1
  | .ptr d => uptoBulk d + 1
  | .slice elems spare => uptoBulkAll elems + uptoBulkAll spare + 1
  | .agg parts => uptoBulkAll parts + 1
  | .iface _ d => uptoBulk d + 1
  | .map entries => uptoBulkEntries entries + 1
  | .held _ => 1
def uptoBulkAll {H : Type} : List (DataW H) → Nat
  | [] => 0
  | d :: r => uptoBulk d + uptoBulkAll r
def uptoBulkEntries {H : Type} : List (Lit × DataW H) → Nat
  | [] => 0
  | x :: r => uptoBulkEntry x + uptoBulkEntries r
def uptoBulkEntry {H : Type} : Lit × DataW H → Nat
  | (.string bytes, d) => bytes.length + uptoBulk d + 1
  | (_, d) => uptoBulk d + 1
 end
def uptoSmall : (H : Type) → List (DataW H) → Bool := fun _ ds => decide (uptoBulkAll ds ≤ 1048576)
def OpenSpec.upto (s : _root_.Go.ChangeSpec) : _root_.Go.OpenSpec := { _root_.Go.OpenSpec.ofChange s with cond := some uptoSmall }

/-- 'aquiferlaw20.TalkRequests', WHERE WHAT IT READS IS OF BULK AT MOST 1048576: true; the input reads as it did. -/
def talkRequestsUptoRow : OpenClaim := { program := "ytjaneipklpgnlaa", sum := "3f0574b93d4b6272ebb61ca08ec52d1fdd33100a2018a9a42ef0b95fbf7d555a", func := "aquifer/aquiferlaw20.TalkRequests", spec := "talkRequests", unfollowed := true, recurses := true, apart := false, narrowed := true }
def TalkRequestsUptoSaid : Prop := talkRequestsUptoRow.holds Try.pinned (OpenSpec.upto talkRequestsSpec)

/-- 'aquiferlaw20.TalkCuts', WHERE WHAT IT READS IS OF BULK AT MOST 1048576: true; the input reads as it did. -/
def talkCutsUptoRow : OpenClaim := { program := "ytjaneipklpgnlaa", sum := "3f0574b93d4b6272ebb61ca08ec52d1fdd33100a2018a9a42ef0b95fbf7d555a", func := "aquifer/aquiferlaw20.TalkCuts", spec := "talkCuts", unfollowed := true, recurses := true, apart := false, narrowed := true }
def TalkCutsUptoSaid : Prop := talkCutsUptoRow.holds Try.pinned (OpenSpec.upto talkCutsSpec)

/-- 'aquiferlaw20.TalkAnswers', WHERE WHAT IT READS IS OF BULK AT MOST 1048576: true; the input reads as it did. -/
def talkAnswersUptoRow : OpenClaim := { program := "ytjaneipklpgnlaa", sum := "3f0574b93d4b6272ebb61ca08ec52d1fdd33100a2018a9a42ef0b95fbf7d555a", func := "aquifer/aquiferlaw20.TalkAnswers", spec := "talkAnswers", unfollowed := true, recurses := true, apart := false, narrowed := true }
def TalkAnswersUptoSaid : Prop := talkAnswersUptoRow.holds Try.pinned (OpenSpec.upto talkAnswersSpec)

/-- 'aquiferlaw20.TalkBack', WHERE WHAT IT READS IS OF BULK AT MOST 1048576: true; the input reads as it did. -/
def talkBackUptoRow : OpenClaim := { program := "ytjaneipklpgnlaa", sum := "3f0574b93d4b6272ebb61ca08ec52d1fdd33100a2018a9a42ef0b95fbf7d555a", func := "aquifer/aquiferlaw20.TalkBack", spec := "talkBack", unfollowed := true, recurses := true, apart := false, narrowed := true }
def TalkBackUptoSaid : Prop := talkBackUptoRow.holds Try.pinned (OpenSpec.upto talkBackSpec)

/-- 'aquiferlaw20.TalkOnce', WHERE WHAT IT READS IS OF BULK AT MOST 1048576: true; the input reads as it did. -/
def talkOnceUptoRow : OpenClaim := { program := "ytjaneipklpgnlaa", sum := "3f0574b93d4b6272ebb61ca08ec52d1fdd33100a2018a9a42ef0b95fbf7d555a", func := "aquifer/aquiferlaw20.TalkOnce", spec := "talkOnce", unfollowed := true, recurses := true, apart := false, narrowed := true }
def TalkOnceUptoSaid : Prop := talkOnceUptoRow.holds Try.pinned (OpenSpec.upto talkOnceSpec)

end Rows
end Go.Proofs.Ytjaneipklpgnlaa
