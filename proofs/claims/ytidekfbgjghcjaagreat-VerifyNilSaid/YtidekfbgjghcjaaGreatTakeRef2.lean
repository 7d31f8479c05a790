/- Walks of the documents' Take (chapter 19). -/
import Derived.Test.YtidekfbgjghcjaaGreatTakeRef
namespace Go.Proofs.YtidekfbgjghcjaaGreat
set_option linter.unusedSimpArgs false
set_option linter.unusedVariables false
open Go Go.RowKit
set_option linter.unusedVariables false

/-- How the documents' Take ends. -/
def RRecTakeEnd (l : List UInt8) (e : Ending) : Prop :=
  (∃ r left y, recTake l = some (r, left) ∧ e = .returned (.tuple #[r.v, .string y, .bool true]) ∧ Txt y left) ∨
  (recTake l = none ∧ e = .returned (.tuple #[Rec.zero.v, .string ⟨#[]⟩, .bool false]))
end Go.Proofs.YtidekfbgjghcjaaGreat
