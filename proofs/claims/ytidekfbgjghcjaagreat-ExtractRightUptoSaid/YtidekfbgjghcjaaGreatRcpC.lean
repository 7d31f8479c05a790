/- Walk of receipt.Check (chapter 21); what right sealed records say of their receipts. -/
import Derived.Test.YtidekfbgjghcjaaGreatG9
import Derived.Test.YtidekfbgjghcjaaGreatG1
import Derived.Deep.DeepAppendWide
import Derived.OneCell
import Derived.Test.YtidekfbgjghcjaaGreatSealS
import Derived.Test.YtidekfbgjghcjaaGreatG5
namespace Go.Proofs.YtidekfbgjghcjaaGreat
set_option linter.unusedSimpArgs false
set_option linter.unusedVariables false
open Go Go.RowKit

theorem rcpOk_rec {x : Rcp} (h : rcpOk x = true) : recOk x.r = true ∧ 0 ≤ x.r.epoch ∧ x.r.epoch ≤ 4294967295 := by
  simp only [rcpOk, Bool.and_eq_true, decide_eq_true_eq] at h
  have h1 := h.1.1.1.2
  have h2 := h1
  simp only [recOk, Bool.and_eq_true, decide_eq_true_eq] at h2
  exact ⟨h1, by omega, by omega⟩

end Go.Proofs.YtidekfbgjghcjaaGreat

