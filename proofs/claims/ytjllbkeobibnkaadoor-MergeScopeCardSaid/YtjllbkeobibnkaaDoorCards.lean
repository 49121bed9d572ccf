/-
  DERIVED. GIVEN WITH THE SEED: THE CARDS: each row of YtjllbkeobibnkaaDoorRows.lean that lists a variable, with what it lists TIED to the program's text (the seventh form; the later family's looks); each row that meets fmt, with fmt's text TOLD by the authors' own Lean function (tested against real Go, not proved from fmt's source: count such statements apart). THE CARD IS WHAT COUNTS. Prove the row's statement (the work); the ties are given (YtjllbkeobibnkaaDoorTie.lean); close each card by the builder's one call (the guide's Derived/Test/ToyasCard.lean, 'card_holds'). Laid BY PROGRAM, IN A SANDBOX (cutbox-door.mjs). By AI agents, Wed Nov 11 2026. No macro, syntax, notation, axiom, sorry.
-/
import Derived.Test.YtjllbkeobibnkaaDoorRows
import GoSem.ClaimSeven
namespace Go.Proofs.YtjllbkeobibnkaaDoor
namespace Rows

/-- THE TIED CARD OF 'aquiferlaw28.MergeTells'. -/
def mergeTellsCard : Claim7 := { stood := { row := mergeTellsRow, standIns := [], harness := (true, "78899013b187db133d03f13ef116ebf99bfe5271257e851bcb492081257ec2bb"), looks := false }, kinds := [], alts := [], laidByText := true, laidKinds := [.data, .pinned], laidTests := true, laidLooks := .later }
def MergeTellsCardSaid : Prop := Claim7.holds Tryd.pinned (.plain (OpenSpec.ofChange mergeTellsSpec)) mergeTellsCard

/-- THE TIED CARD OF 'aquiferlaw28.MergeDoes'. -/
def mergeDoesCard : Claim7 := { stood := { row := mergeDoesRow, standIns := [], harness := (true, "78899013b187db133d03f13ef116ebf99bfe5271257e851bcb492081257ec2bb"), looks := false }, kinds := [], alts := [], laidByText := true, laidKinds := [.data, .pinned], laidTests := true, laidLooks := .later }
def MergeDoesCardSaid : Prop := Claim7.holds Tryd.pinned (.plain (OpenSpec.ofChange mergeDoesSpec)) mergeDoesCard

/-- THE TIED CARD OF 'aquiferlaw28.MergeScope'. -/
def mergeScopeCard : Claim7 := { stood := { row := mergeScopeRow, standIns := [], harness := (true, "78899013b187db133d03f13ef116ebf99bfe5271257e851bcb492081257ec2bb"), looks := false }, kinds := [], alts := [], laidByText := true, laidKinds := [.data, .pinned], laidTests := true, laidLooks := .later }
def MergeScopeCardSaid : Prop := Claim7.holds Tryd.pinned (.plain (OpenSpec.ofChange mergeScopeSpec)) mergeScopeCard

/-- THE TIED CARD OF 'aquiferlaw28.MergeKeeps'. -/
def mergeKeepsCard : Claim7 := { stood := { row := mergeKeepsRow, standIns := [], harness := (true, "78899013b187db133d03f13ef116ebf99bfe5271257e851bcb492081257ec2bb"), looks := false }, kinds := [], alts := [], laidByText := true, laidKinds := [.data, .pinned], laidTests := true, laidLooks := .later }
def MergeKeepsCardSaid : Prop := Claim7.holds Tryd.pinned (.plain (OpenSpec.ofChange mergeKeepsSpec)) mergeKeepsCard

/-- THE TIED CARD OF 'aquiferlaw28.MergeOneSide'. -/
def mergeOneSideCard : Claim7 := { stood := { row := mergeOneSideRow, standIns := [], harness := (true, "78899013b187db133d03f13ef116ebf99bfe5271257e851bcb492081257ec2bb"), looks := false }, kinds := [], alts := [], laidByText := true, laidKinds := [.data, .pinned], laidTests := true, laidLooks := .later }
def MergeOneSideCardSaid : Prop := Claim7.holds Tryd.pinned (.plain (OpenSpec.ofChange mergeOneSideSpec)) mergeOneSideCard

/-- THE SECOND FORM's CARD OF 'aquiferlaw28.MergeTells'. -/
def mergeTellsUptoCard : Claim7 := { stood := { row := mergeTellsUptoRow, standIns := [], harness := (true, "78899013b187db133d03f13ef116ebf99bfe5271257e851bcb492081257ec2bb"), looks := false }, kinds := [], alts := [], laidByText := true, laidKinds := [.data, .pinned], laidTests := true, laidLooks := .later }
def MergeTellsUptoCardSaid : Prop := Claim7.holds Tryd.pinned (.plain (OpenSpec.upto mergeTellsSpec)) mergeTellsUptoCard

/-- THE SECOND FORM's CARD OF 'aquiferlaw28.MergeDoes'. -/
def mergeDoesUptoCard : Claim7 := { stood := { row := mergeDoesUptoRow, standIns := [], harness := (true, "78899013b187db133d03f13ef116ebf99bfe5271257e851bcb492081257ec2bb"), looks := false }, kinds := [], alts := [], laidByText := true, laidKinds := [.data, .pinned], laidTests := true, laidLooks := .later }
def MergeDoesUptoCardSaid : Prop := Claim7.holds Tryd.pinned (.plain (OpenSpec.upto mergeDoesSpec)) mergeDoesUptoCard

/-- THE SECOND FORM's CARD OF 'aquiferlaw28.MergeScope'. -/
def mergeScopeUptoCard : Claim7 := { stood := { row := mergeScopeUptoRow, standIns := [], harness := (true, "78899013b187db133d03f13ef116ebf99bfe5271257e851bcb492081257ec2bb"), looks := false }, kinds := [], alts := [], laidByText := true, laidKinds := [.data, .pinned], laidTests := true, laidLooks := .later }
def MergeScopeUptoCardSaid : Prop := Claim7.holds Tryd.pinned (.plain (OpenSpec.upto mergeScopeSpec)) mergeScopeUptoCard

/-- THE SECOND FORM's CARD OF 'aquiferlaw28.MergeKeeps'. -/
def mergeKeepsUptoCard : Claim7 := { stood := { row := mergeKeepsUptoRow, standIns := [], harness := (true, "78899013b187db133d03f13ef116ebf99bfe5271257e851bcb492081257ec2bb"), looks := false }, kinds := [], alts := [], laidByText := true, laidKinds := [.data, .pinned], laidTests := true, laidLooks := .later }
def MergeKeepsUptoCardSaid : Prop := Claim7.holds Tryd.pinned (.plain (OpenSpec.upto mergeKeepsSpec)) mergeKeepsUptoCard

/-- THE SECOND FORM's CARD OF 'aquiferlaw28.MergeOneSide'. -/
def mergeOneSideUptoCard : Claim7 := { stood := { row := mergeOneSideUptoRow, standIns := [], harness := (true, "78899013b187db133d03f13ef116ebf99bfe5271257e851bcb492081257ec2bb"), looks := false }, kinds := [], alts := [], laidByText := true, laidKinds := [.data, .pinned], laidTests := true, laidLooks := .later }
def MergeOneSideUptoCardSaid : Prop := Claim7.holds Tryd.pinned (.plain (OpenSpec.upto mergeOneSideSpec)) mergeOneSideUptoCard
end Rows
end Go.Proofs.YtjllbkeobibnkaaDoor
