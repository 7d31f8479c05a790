/- Three closed facts on the program's head, which every statement's row asks. -/
import Derived.Test.YtgimkmclgjfddaaGreatRows
import Derived.ProofKit
import Derived.Carry
set_option linter.unusedSimpArgs false
set_option linter.unusedVariables false
set_option maxRecDepth 100000
set_option maxHeartbeats 4000000
namespace Go.Proofs.YtgimkmclgjfddaaGreat
open Go Go.RowKit
theorem si:Tryz.prog.mayEnter=true:=by kernel_rfl
theorem wJ:Tryz.prog.liftsFinal=false:=by kernel_rfl
theorem AB:Tryz.prog.make=some .cut:=by kernel_rfl
theorem tX:laidOutB Tryz.prog=true:=by kernel_rfl
end Go.Proofs.YtgimkmclgjfddaaGreat
