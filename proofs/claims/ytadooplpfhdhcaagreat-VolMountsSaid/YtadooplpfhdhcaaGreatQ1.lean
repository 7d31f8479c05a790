/- Three closed facts on the program's head, which every statement's row asks. -/
import Derived.Test.YtadooplpfhdhcaaGreatRows
import Derived.ProofKit
import Derived.Carry
set_option linter.unusedSimpArgs false
set_option linter.unusedVariables false
set_option maxRecDepth 100000
set_option maxHeartbeats 4000000
namespace Go.Proofs.YtadooplpfhdhcaaGreat
open Go Go.RowKit
open Go.Proofs.Tryz
theorem xt:prog.mayEnter=true:=by kernel_rfl
theorem AK:prog.liftsFinal=false:=by kernel_rfl
theorem E0:prog.make=some .cut:=by kernel_rfl
theorem pE:laidOutB prog=true:=by kernel_rfl
end Go.Proofs.YtadooplpfhdhcaaGreat
