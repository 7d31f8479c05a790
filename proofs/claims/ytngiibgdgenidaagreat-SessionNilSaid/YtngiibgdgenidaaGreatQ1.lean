/- Three closed facts on the program's head, which every statement's row asks. -/
import Derived.Test.YtngiibgdgenidaaGreatRows
import Derived.ProofKit
import Derived.Carry
set_option linter.unusedSimpArgs false
set_option linter.unusedVariables false
set_option maxRecDepth 100000
set_option maxHeartbeats 4000000
namespace Go.Proofs.YtngiibgdgenidaaGreat
open Go Go.RowKit
theorem sH:Tryz.prog.mayEnter=true:=by kernel_rfl
theorem wL:Tryz.prog.liftsFinal=false:=by kernel_rfl
theorem AD:Tryz.prog.make=some .cut:=by kernel_rfl
theorem ub:laidOutB Tryz.prog=true:=by kernel_rfl
end Go.Proofs.YtngiibgdgenidaaGreat
