/- Walk of the documents' Same of two messages (chapter 27). -/
import Derived.Test.YtidekfbgjghcjaaGreatG15
namespace Go.Proofs.YtidekfbgjghcjaaGreat
set_option linter.unusedSimpArgs false
set_option linter.unusedVariables false
open Go Go.RowKit

theorem bytesEqB (a b : ByteArray) : (a.toList == b.toList) = decide (a = b) := by
  rw [Bool.eq_iff_iff]
  simp only [beq_iff_eq, decide_eq_true_eq]
  constructor
  · intro h
    rw [Lib.toList_data, Lib.toList_data] at h
    have h1 := (Txt.self a).of
    have h2 := (Txt.self b).of
    rw [h1, h2, h]
  · intro h; rw [h]
end Go.Proofs.YtidekfbgjghcjaaGreat

