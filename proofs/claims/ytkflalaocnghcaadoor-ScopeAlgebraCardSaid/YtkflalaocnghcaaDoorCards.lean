/-
  DERIVED. GIVEN WITH THE SEED: THE CARDS: each row of YtkflalaocnghcaaDoorRows.lean that lists a variable, with what it lists TIED to the program's text (the seventh form; the later family's looks); each row that meets fmt, with fmt's text TOLD by the authors' own Lean function (tested against real Go, not proved from fmt's source: count such statements apart). THE CARD IS WHAT COUNTS. Prove the row's statement (the work); the ties are given (YtkflalaocnghcaaDoorTie.lean); close each card by the builder's one call (the guide's Derived/Test/ToyasCard.lean, 'card_holds'). Laid BY PROGRAM, IN A SANDBOX (cutbox-door.mjs). By AI agents, Wed Nov 11 2026. No macro, syntax, notation, axiom, sorry.
-/
import Derived.Test.YtkflalaocnghcaaDoorRows
import GoSem.ClaimSeven
namespace Go.Proofs.YtkflalaocnghcaaDoor
namespace Rows

/-- THE TIED CARD OF 'aquiferlaw06.ScopeMakes'. -/
def scopeMakesCard : Claim7 := { stood := { row := scopeMakesRow, standIns := [], harness := (true, "067b717ea2883e1b3b9eac4b170a2c4c73abc7f928e7b64b41a4e1bdbf2de1a7"), looks := false }, kinds := [], alts := [], laidByText := true, laidKinds := [.data, .pinned], laidTests := true, laidLooks := .later }
def ScopeMakesCardSaid : Prop := Claim7.holds Tryd.pinned (.plain (OpenSpec.ofChange scopeMakesSpec)) scopeMakesCard

/-- THE TIED CARD OF 'aquiferlaw06.ScopeTells'. -/
def scopeTellsCard : Claim7 := { stood := { row := scopeTellsRow, standIns := [], harness := (true, "067b717ea2883e1b3b9eac4b170a2c4c73abc7f928e7b64b41a4e1bdbf2de1a7"), looks := false }, kinds := [], alts := [], laidByText := true, laidKinds := [.data, .pinned], laidTests := true, laidLooks := .later }
def ScopeTellsCardSaid : Prop := Claim7.holds Tryd.pinned (.plain (OpenSpec.ofChange scopeTellsSpec)) scopeTellsCard

/-- THE TIED CARD OF 'aquiferlaw06.ScopePairs'. -/
def scopePairsCard : Claim7 := { stood := { row := scopePairsRow, standIns := [], harness := (true, "067b717ea2883e1b3b9eac4b170a2c4c73abc7f928e7b64b41a4e1bdbf2de1a7"), looks := false }, kinds := [], alts := [], laidByText := true, laidKinds := [.data, .pinned], laidTests := true, laidLooks := .later }
def ScopePairsCardSaid : Prop := Claim7.holds Tryd.pinned (.plain (OpenSpec.ofChange scopePairsSpec)) scopePairsCard

/-- THE TIED CARD OF 'aquiferlaw06.ScopeAlgebra'. -/
def scopeAlgebraCard : Claim7 := { stood := { row := scopeAlgebraRow, standIns := [], harness := (true, "067b717ea2883e1b3b9eac4b170a2c4c73abc7f928e7b64b41a4e1bdbf2de1a7"), looks := false }, kinds := [], alts := [], laidByText := true, laidKinds := [.data, .pinned], laidTests := true, laidLooks := .later }
def ScopeAlgebraCardSaid : Prop := Claim7.holds Tryd.pinned (.plain (OpenSpec.ofChange scopeAlgebraSpec)) scopeAlgebraCard

/-- THE TIED CARD OF 'aquiferlaw06.ScopeTexts'. -/
def scopeTextsCard : Claim7 := { stood := { row := scopeTextsRow, standIns := [], harness := (true, "067b717ea2883e1b3b9eac4b170a2c4c73abc7f928e7b64b41a4e1bdbf2de1a7"), looks := false }, kinds := [], alts := [], laidByText := true, laidKinds := [.data, .pinned], laidTests := true, laidLooks := .later }
def ScopeTextsCardSaid : Prop := Claim7.holds Tryd.pinned (.plain (OpenSpec.ofChange scopeTextsSpec)) scopeTextsCard

/-- THE TIED CARD OF 'aquiferlaw06.ScopeAgain'. -/
def scopeAgainCard : Claim7 := { stood := { row := scopeAgainRow, standIns := [], harness := (true, "067b717ea2883e1b3b9eac4b170a2c4c73abc7f928e7b64b41a4e1bdbf2de1a7"), looks := false }, kinds := [], alts := [], laidByText := true, laidKinds := [.data, .pinned], laidTests := true, laidLooks := .later }
def ScopeAgainCardSaid : Prop := Claim7.holds Tryd.pinned (.plain (OpenSpec.ofChange scopeAgainSpec)) scopeAgainCard

/-- THE SECOND FORM's CARD OF 'aquiferlaw06.ScopeMakes'. -/
def scopeMakesUptoCard : Claim7 := { stood := { row := scopeMakesUptoRow, standIns := [], harness := (true, "067b717ea2883e1b3b9eac4b170a2c4c73abc7f928e7b64b41a4e1bdbf2de1a7"), looks := false }, kinds := [], alts := [], laidByText := true, laidKinds := [.data, .pinned], laidTests := true, laidLooks := .later }
def ScopeMakesUptoCardSaid : Prop := Claim7.holds Tryd.pinned (.plain (OpenSpec.upto scopeMakesSpec)) scopeMakesUptoCard

/-- THE SECOND FORM's CARD OF 'aquiferlaw06.ScopeTells'. -/
def scopeTellsUptoCard : Claim7 := { stood := { row := scopeTellsUptoRow, standIns := [], harness := (true, "067b717ea2883e1b3b9eac4b170a2c4c73abc7f928e7b64b41a4e1bdbf2de1a7"), looks := false }, kinds := [], alts := [], laidByText := true, laidKinds := [.data, .pinned], laidTests := true, laidLooks := .later }
def ScopeTellsUptoCardSaid : Prop := Claim7.holds Tryd.pinned (.plain (OpenSpec.upto scopeTellsSpec)) scopeTellsUptoCard

/-- THE SECOND FORM's CARD OF 'aquiferlaw06.ScopePairs'. -/
def scopePairsUptoCard : Claim7 := { stood := { row := scopePairsUptoRow, standIns := [], harness := (true, "067b717ea2883e1b3b9eac4b170a2c4c73abc7f928e7b64b41a4e1bdbf2de1a7"), looks := false }, kinds := [], alts := [], laidByText := true, laidKinds := [.data, .pinned], laidTests := true, laidLooks := .later }
def ScopePairsUptoCardSaid : Prop := Claim7.holds Tryd.pinned (.plain (OpenSpec.upto scopePairsSpec)) scopePairsUptoCard

/-- THE SECOND FORM's CARD OF 'aquiferlaw06.ScopeAlgebra'. -/
def scopeAlgebraUptoCard : Claim7 := { stood := { row := scopeAlgebraUptoRow, standIns := [], harness := (true, "067b717ea2883e1b3b9eac4b170a2c4c73abc7f928e7b64b41a4e1bdbf2de1a7"), looks := false }, kinds := [], alts := [], laidByText := true, laidKinds := [.data, .pinned], laidTests := true, laidLooks := .later }
def ScopeAlgebraUptoCardSaid : Prop := Claim7.holds Tryd.pinned (.plain (OpenSpec.upto scopeAlgebraSpec)) scopeAlgebraUptoCard

/-- THE SECOND FORM's CARD OF 'aquiferlaw06.ScopeTexts'. -/
def scopeTextsUptoCard : Claim7 := { stood := { row := scopeTextsUptoRow, standIns := [], harness := (true, "067b717ea2883e1b3b9eac4b170a2c4c73abc7f928e7b64b41a4e1bdbf2de1a7"), looks := false }, kinds := [], alts := [], laidByText := true, laidKinds := [.data, .pinned], laidTests := true, laidLooks := .later }
def ScopeTextsUptoCardSaid : Prop := Claim7.holds Tryd.pinned (.plain (OpenSpec.upto scopeTextsSpec)) scopeTextsUptoCard

/-- THE SECOND FORM's CARD OF 'aquiferlaw06.ScopeAgain'. -/
def scopeAgainUptoCard : Claim7 := { stood := { row := scopeAgainUptoRow, standIns := [], harness := (true, "067b717ea2883e1b3b9eac4b170a2c4c73abc7f928e7b64b41a4e1bdbf2de1a7"), looks := false }, kinds := [], alts := [], laidByText := true, laidKinds := [.data, .pinned], laidTests := true, laidLooks := .later }
def ScopeAgainUptoCardSaid : Prop := Claim7.holds Tryd.pinned (.plain (OpenSpec.upto scopeAgainSpec)) scopeAgainUptoCard
end Rows
end Go.Proofs.YtkflalaocnghcaaDoor
