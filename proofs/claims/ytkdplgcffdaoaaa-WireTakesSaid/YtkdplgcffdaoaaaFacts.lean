/- Three closed facts on the program's head, which every statement's row asks. -/
import Derived.Test.YtkdplgcffdaoaaaRows
import Derived.ProofKit
import Derived.Carry
namespace Go.Proofs.Ytkdplgcffdaoaaa
set_option linter.unusedSimpArgs false
set_option linter.unusedVariables false
open Go Go.RowKit
theorem fact_mayEnter : Try.prog.mayEnter = true := by kernel_rfl
theorem fact_lifted : Try.prog.liftsFinal = false := by kernel_rfl
theorem fact_make : Try.prog.make = some .cut := by kernel_rfl
theorem fact_laidOut : laidOutB Try.prog = true := by kernel_rfl
end Go.Proofs.Ytkdplgcffdaoaaa
