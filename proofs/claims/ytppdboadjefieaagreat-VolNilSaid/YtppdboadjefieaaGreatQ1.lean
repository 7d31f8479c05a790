/- Three closed facts on the program's head, which every statement's row asks. -/
import Derived.Test.YtppdboadjefieaaGreatRows
import Derived.ProofKit
import Derived.Carry
set_option linter.unusedSimpArgs false
set_option linter.unusedVariables false
namespace Go.Proofs.YtppdboadjefieaaGreat
open Go Go.RowKit
theorem fact_mayEnter : Tryz.prog.mayEnter = true := by kernel_rfl
theorem fact_lifted : Tryz.prog.liftsFinal = false := by kernel_rfl
theorem fact_make : Tryz.prog.make = some .cut := by kernel_rfl
theorem fact_laidOut : laidOutB Tryz.prog = true := by kernel_rfl
end Go.Proofs.YtppdboadjefieaaGreat

