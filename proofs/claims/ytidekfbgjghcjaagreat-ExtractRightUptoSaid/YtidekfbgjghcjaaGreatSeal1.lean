/- Walks of chain.begin, records, beyond, and of Follow at an epoch that may not be (chapter 20). -/
import Derived.Test.YtidekfbgjghcjaaGreatSealS
import Derived.Test.YtidekfbgjghcjaaGreatG1
import Derived.Deep.QuietTactic
import Derived.BigQuiet
import Derived.Deep.RegionWith
import Derived.Deep.DeepAppendWide
import Derived.Deep.DeepCutAuto
import Derived.OneCell
namespace Go.Proofs.YtidekfbgjghcjaaGreat
set_option linter.unusedSimpArgs false
set_option linter.unusedVariables false
open Go Go.RowKit

theorem zeroSld (w : World) : Sem.run Tryz.prog (zeroValue 27) w = .ok (.agg (Sld.cells ⟨Rec.zero, ⟨#[]⟩⟩).toArray) w := by kernel_rfl
theorem rsizeSld {x : Sld} : (Tryz.prog.info? 27).map (·.size) = some x.cells.length := by kernel_rfl
theorem Sld.cells_one (x : Sld) : ∀ v ∈ x.cells, v.oneCell' = true := by intro v hv; simp [Sld.cells] at hv; rcases hv with rfl | rfl | rfl | rfl | rfl | rfl | rfl | rfl | rfl <;> rfl
theorem Rec.cells_one1 (x : Rec) : ∀ v ∈ x.cells, v.oneCell' = true := by intro v hv; simp [Rec.cells] at hv; rcases hv with rfl | rfl | rfl | rfl | rfl | rfl | rfl | rfl <;> rfl

end Go.Proofs.YtidekfbgjghcjaaGreat

