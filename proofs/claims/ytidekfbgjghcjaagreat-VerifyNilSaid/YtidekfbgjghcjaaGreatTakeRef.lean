/- Walks of the documents' Cut, Unpack, Take (chapters 1, 19, 21), Put, Check (chapter 21). -/
import Derived.Test.YtidekfbgjghcjaaGreatTakeR
import Derived.Test.YtidekfbgjghcjaaGreatRef10
namespace Go.Proofs.YtidekfbgjghcjaaGreat
set_option linter.unusedSimpArgs false
set_option linter.unusedVariables false
open Go Go.RowKit
set_option linter.unusedVariables false

end Go.Proofs.YtidekfbgjghcjaaGreat
