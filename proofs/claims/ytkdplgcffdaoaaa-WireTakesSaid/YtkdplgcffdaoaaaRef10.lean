/- Walk of the documents' At (chapter 18). -/
import Derived.Test.YtkdplgcffdaoaaaG5
namespace Go.Proofs.Ytkdplgcffdaoaaa
set_option linter.unusedSimpArgs false
set_option linter.unusedVariables false
open Go Go.RowKit
set_option linter.unusedVariables false

theorem MadeEnd.yes {key label : List UInt8} {xs : List Int} {e : Ending} (h : MadeEnd key label xs e) (h1 : key.length = 32) (h2 : saidOk label xs = true) :
    ∃ r, e = .returned (.tuple #[.string r, .bool true]) ∧ Txt r (madeL key label (xs.map Int.toNat)) := by
  rcases h with ⟨_, h⟩ | ⟨h, _⟩
  · exact h
  · exact absurd ⟨h1, h2⟩ h
theorem MadeEnd.no {key label : List UInt8} {xs : List Int} {e : Ending} (h : MadeEnd key label xs e) (h1 : ¬ (key.length = 32 ∧ saidOk label xs = true)) :
    e = .returned (.tuple #[.string ⟨#[]⟩, .bool false]) := by
  rcases h with ⟨h, _⟩ | ⟨_, h⟩
  · exact absurd h h1
  · exact h

end Go.Proofs.Ytkdplgcffdaoaaa
