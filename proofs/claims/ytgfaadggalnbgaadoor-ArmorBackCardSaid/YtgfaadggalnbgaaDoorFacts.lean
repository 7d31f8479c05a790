/- Three closed facts on the program's head, which every statement's row asks. -/
import Derived.Test.YtgfaadggalnbgaaDoorRows
import Derived.ProofKit
import Derived.Carry
namespace Go.Proofs.YtgfaadggalnbgaaDoor
set_option linter.unusedSimpArgs false
set_option linter.unusedVariables false
open Go Go.RowKit
theorem fact_mayEnter : Tryd.prog.mayEnter = true := by kernel_rfl
theorem fact_lifted : Tryd.prog.liftsFinal = false := by kernel_rfl
theorem fact_make : Tryd.prog.make = some .cut := by kernel_rfl
theorem fact_laidOut : laidOutB Tryd.prog = true := by kernel_rfl
end Go.Proofs.YtgfaadggalnbgaaDoor
