/-
  DERIVED. GIVEN WITH THE SEED: THE CARDS: each row of YtdggdmdefmljlaaDoorRows.lean that lists a variable, with what it lists TIED to the program's text (the seventh form; the later family's looks); each row that meets fmt, with fmt's text TOLD by the authors' own Lean function (tested against real Go, not proved from fmt's source: count such statements apart). THE CARD IS WHAT COUNTS. Prove the row's statement (the work); the ties are given (YtdggdmdefmljlaaDoorTie.lean); close each card by the builder's one call (the guide's Derived/Test/ToyasCard.lean, 'card_holds'). Laid BY PROGRAM, IN A SANDBOX (cutbox-door.mjs). By AI agents, Wed Nov 11 2026. No macro, syntax, notation, axiom, sorry.
-/
import Derived.Test.YtdggdmdefmljlaaDoorRows
import GoSem.ClaimSeven
namespace Go.Proofs.YtdggdmdefmljlaaDoor
namespace Rows

/-- THE TIED CARD OF 'aquiferlaw26.LruTells'. -/
def lruTellsCard : Claim7 := { stood := { row := lruTellsRow, standIns := [], harness := (true, "ed3517321f6b201d801f28c50cabd34698d0c30173b98f1f6a6ddb8340a2a237"), looks := false }, kinds := [], alts := [], laidByText := true, laidKinds := [.data, .pinned], laidTests := true, laidLooks := .later }
def LruTellsCardSaid : Prop := Claim7.holds Tryd.pinned (.plain (OpenSpec.ofChange lruTellsSpec)) lruTellsCard

/-- THE TIED CARD OF 'aquiferlaw26.LruRoom'. -/
def lruRoomCard : Claim7 := { stood := { row := lruRoomRow, standIns := [], harness := (true, "ed3517321f6b201d801f28c50cabd34698d0c30173b98f1f6a6ddb8340a2a237"), looks := false }, kinds := [], alts := [], laidByText := true, laidKinds := [.data, .pinned], laidTests := true, laidLooks := .later }
def LruRoomCardSaid : Prop := Claim7.holds Tryd.pinned (.plain (OpenSpec.ofChange lruRoomSpec)) lruRoomCard

/-- THE TIED CARD OF 'aquiferlaw26.LruShuffled'. -/
def lruShuffledCard : Claim7 := { stood := { row := lruShuffledRow, standIns := [], harness := (true, "ed3517321f6b201d801f28c50cabd34698d0c30173b98f1f6a6ddb8340a2a237"), looks := false }, kinds := [], alts := [], laidByText := true, laidKinds := [.data, .pinned], laidTests := true, laidLooks := .later }
def LruShuffledCardSaid : Prop := Claim7.holds Tryd.pinned (.plain (OpenSpec.ofChange lruShuffledSpec)) lruShuffledCard

/-- THE TIED CARD OF 'aquiferlaw26.LruVictims'. -/
def lruVictimsCard : Claim7 := { stood := { row := lruVictimsRow, standIns := [], harness := (true, "ed3517321f6b201d801f28c50cabd34698d0c30173b98f1f6a6ddb8340a2a237"), looks := false }, kinds := [], alts := [], laidByText := true, laidKinds := [.data, .pinned], laidTests := true, laidLooks := .later }
def LruVictimsCardSaid : Prop := Claim7.holds Tryd.pinned (.plain (OpenSpec.ofChange lruVictimsSpec)) lruVictimsCard

/-- THE TIED CARD OF 'aquiferlaw26.LruSpare'. -/
def lruSpareCard : Claim7 := { stood := { row := lruSpareRow, standIns := [], harness := (true, "ed3517321f6b201d801f28c50cabd34698d0c30173b98f1f6a6ddb8340a2a237"), looks := false }, kinds := [], alts := [], laidByText := true, laidKinds := [.data, .pinned], laidTests := true, laidLooks := .later }
def LruSpareCardSaid : Prop := Claim7.holds Tryd.pinned (.plain (OpenSpec.ofChange lruSpareSpec)) lruSpareCard

/-- THE SECOND FORM's CARD OF 'aquiferlaw26.LruTells'. -/
def lruTellsUptoCard : Claim7 := { stood := { row := lruTellsUptoRow, standIns := [], harness := (true, "ed3517321f6b201d801f28c50cabd34698d0c30173b98f1f6a6ddb8340a2a237"), looks := false }, kinds := [], alts := [], laidByText := true, laidKinds := [.data, .pinned], laidTests := true, laidLooks := .later }
def LruTellsUptoCardSaid : Prop := Claim7.holds Tryd.pinned (.plain (OpenSpec.upto lruTellsSpec)) lruTellsUptoCard

/-- THE SECOND FORM's CARD OF 'aquiferlaw26.LruRoom'. -/
def lruRoomUptoCard : Claim7 := { stood := { row := lruRoomUptoRow, standIns := [], harness := (true, "ed3517321f6b201d801f28c50cabd34698d0c30173b98f1f6a6ddb8340a2a237"), looks := false }, kinds := [], alts := [], laidByText := true, laidKinds := [.data, .pinned], laidTests := true, laidLooks := .later }
def LruRoomUptoCardSaid : Prop := Claim7.holds Tryd.pinned (.plain (OpenSpec.upto lruRoomSpec)) lruRoomUptoCard

/-- THE SECOND FORM's CARD OF 'aquiferlaw26.LruShuffled'. -/
def lruShuffledUptoCard : Claim7 := { stood := { row := lruShuffledUptoRow, standIns := [], harness := (true, "ed3517321f6b201d801f28c50cabd34698d0c30173b98f1f6a6ddb8340a2a237"), looks := false }, kinds := [], alts := [], laidByText := true, laidKinds := [.data, .pinned], laidTests := true, laidLooks := .later }
def LruShuffledUptoCardSaid : Prop := Claim7.holds Tryd.pinned (.plain (OpenSpec.upto lruShuffledSpec)) lruShuffledUptoCard

/-- THE SECOND FORM's CARD OF 'aquiferlaw26.LruVictims'. -/
def lruVictimsUptoCard : Claim7 := { stood := { row := lruVictimsUptoRow, standIns := [], harness := (true, "ed3517321f6b201d801f28c50cabd34698d0c30173b98f1f6a6ddb8340a2a237"), looks := false }, kinds := [], alts := [], laidByText := true, laidKinds := [.data, .pinned], laidTests := true, laidLooks := .later }
def LruVictimsUptoCardSaid : Prop := Claim7.holds Tryd.pinned (.plain (OpenSpec.upto lruVictimsSpec)) lruVictimsUptoCard

/-- THE SECOND FORM's CARD OF 'aquiferlaw26.LruSpare'. -/
def lruSpareUptoCard : Claim7 := { stood := { row := lruSpareUptoRow, standIns := [], harness := (true, "ed3517321f6b201d801f28c50cabd34698d0c30173b98f1f6a6ddb8340a2a237"), looks := false }, kinds := [], alts := [], laidByText := true, laidKinds := [.data, .pinned], laidTests := true, laidLooks := .later }
def LruSpareUptoCardSaid : Prop := Claim7.holds Tryd.pinned (.plain (OpenSpec.upto lruSpareSpec)) lruSpareUptoCard
end Rows
end Go.Proofs.YtdggdmdefmljlaaDoor
