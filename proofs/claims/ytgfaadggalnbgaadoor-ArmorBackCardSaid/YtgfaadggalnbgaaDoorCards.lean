/-
  DERIVED. GIVEN WITH THE SEED: THE CARDS: each row of YtgfaadggalnbgaaDoorRows.lean that lists a variable, with what it lists TIED to the program's text (the seventh form; the later family's looks); each row that meets fmt, with fmt's text TOLD by the authors' own Lean function (tested against real Go, not proved from fmt's source: count such statements apart). THE CARD IS WHAT COUNTS. Prove the row's statement (the work); the ties are given (YtgfaadggalnbgaaDoorTie.lean); close each card by the builder's one call (the guide's Derived/Test/ToyasCard.lean, 'card_holds'). Laid BY PROGRAM, IN A SANDBOX (cutbox-door.mjs). By AI agents, Wed Nov 11 2026. No macro, syntax, notation, axiom, sorry.
-/
import Derived.Test.YtgfaadggalnbgaaDoorRows
import GoSem.ClaimSeven
namespace Go.Proofs.YtgfaadggalnbgaaDoor
namespace Rows

/-- THE TIED CARD OF 'keepsakelaw39.ArmorPuts'. -/
def armorPutsCard : Claim7 := { stood := { row := armorPutsRow, standIns := [], harness := (true, "8d0752d6b13156e4b8249fe90fff1170ff38228997135344812a3c67ecd63dd0"), looks := false }, kinds := [], alts := [], laidByText := true, laidKinds := [.data, .pinned], laidTests := true, laidLooks := .later }
def ArmorPutsCardSaid : Prop := Claim7.holds Tryd.pinned (.plain (OpenSpec.ofChange armorPutsSpec)) armorPutsCard

/-- THE TIED CARD OF 'keepsakelaw39.ArmorBack'. -/
def armorBackCard : Claim7 := { stood := { row := armorBackRow, standIns := [], harness := (true, "8d0752d6b13156e4b8249fe90fff1170ff38228997135344812a3c67ecd63dd0"), looks := false }, kinds := [], alts := [], laidByText := true, laidKinds := [.data, .pinned], laidTests := true, laidLooks := .later }
def ArmorBackCardSaid : Prop := Claim7.holds Tryd.pinned (.plain (OpenSpec.ofChange armorBackSpec)) armorBackCard

/-- THE SECOND FORM's CARD OF 'keepsakelaw39.ArmorPuts'. -/
def armorPutsUptoCard : Claim7 := { stood := { row := armorPutsUptoRow, standIns := [], harness := (true, "8d0752d6b13156e4b8249fe90fff1170ff38228997135344812a3c67ecd63dd0"), looks := false }, kinds := [], alts := [], laidByText := true, laidKinds := [.data, .pinned], laidTests := true, laidLooks := .later }
def ArmorPutsUptoCardSaid : Prop := Claim7.holds Tryd.pinned (.plain (OpenSpec.upto armorPutsSpec)) armorPutsUptoCard

/-- THE SECOND FORM's CARD OF 'keepsakelaw39.ArmorBack'. -/
def armorBackUptoCard : Claim7 := { stood := { row := armorBackUptoRow, standIns := [], harness := (true, "8d0752d6b13156e4b8249fe90fff1170ff38228997135344812a3c67ecd63dd0"), looks := false }, kinds := [], alts := [], laidByText := true, laidKinds := [.data, .pinned], laidTests := true, laidLooks := .later }
def ArmorBackUptoCardSaid : Prop := Claim7.holds Tryd.pinned (.plain (OpenSpec.upto armorBackSpec)) armorBackUptoCard
end Rows
end Go.Proofs.YtgfaadggalnbgaaDoor
