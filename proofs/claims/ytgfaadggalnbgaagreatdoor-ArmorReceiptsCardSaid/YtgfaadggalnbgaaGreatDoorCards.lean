/-
  DERIVED. GIVEN WITH THE SEED: THE CARDS: each row of YtgfaadggalnbgaaGreatDoorRows.lean that lists a variable, with what it lists TIED to the program's text (the seventh form; the later family's looks); each row that meets fmt, with fmt's text TOLD by the authors' own Lean function (tested against real Go, not proved from fmt's source: count such statements apart). THE CARD IS WHAT COUNTS. Prove the row's statement (the work); the ties are given (YtgfaadggalnbgaaGreatDoorTie.lean); close each card by the builder's one call (the guide's Derived/Test/ToyasCard.lean, 'card_holds'). Laid BY PROGRAM, IN A SANDBOX (cutbox-door.mjs). By AI agents, Wed Nov 11 2026. No macro, syntax, notation, axiom, sorry.
-/
import Derived.Test.YtgfaadggalnbgaaGreatDoorRows
import GoSem.ClaimSeven
namespace Go.Proofs.YtgfaadggalnbgaaGreatDoor
namespace Rows

/-- THE TIED CARD OF 'keepsakelaw39.ArmorReceipts'. -/
def armorReceiptsCard : Claim7 := { stood := { row := armorReceiptsRow, standIns := [], harness := (true, "67c93a727b2ba8a81f1001d9b1c4b625826355af3e2f5e4a5f5d22e1234c4f91"), looks := false }, kinds := [], alts := [], laidByText := true, laidKinds := [.data, .pinned], laidTests := true, laidLooks := .later }
def ArmorReceiptsCardSaid : Prop := Claim7.holds Tryz.pinned (.plain (OpenSpec.ofChange armorReceiptsSpec)) armorReceiptsCard

/-- THE SECOND FORM's CARD OF 'keepsakelaw39.ArmorReceipts'. -/
def armorReceiptsUptoCard : Claim7 := { stood := { row := armorReceiptsUptoRow, standIns := [], harness := (true, "67c93a727b2ba8a81f1001d9b1c4b625826355af3e2f5e4a5f5d22e1234c4f91"), looks := false }, kinds := [], alts := [], laidByText := true, laidKinds := [.data, .pinned], laidTests := true, laidLooks := .later }
def ArmorReceiptsUptoCardSaid : Prop := Claim7.holds Tryz.pinned (.plain (OpenSpec.upto armorReceiptsSpec)) armorReceiptsUptoCard
end Rows
end Go.Proofs.YtgfaadggalnbgaaGreatDoor
