/- Walks of the documents' Cut, Unpack, Take (chapters 1, 19, 21), Put, Check (chapter 21). -/
import Derived.Test.YtkdplgcffdaoaaaTakeR
import Derived.Test.YtkdplgcffdaoaaaRef10
namespace Go.Proofs.Ytkdplgcffdaoaaa
set_option linter.unusedSimpArgs false
set_option linter.unusedVariables false
open Go Go.RowKit
set_option linter.unusedVariables false

end Go.Proofs.Ytkdplgcffdaoaaa
