/- Walk of receipt.All and of the closure in it (chapter 21). Walk of receipt.All; the example of chapter 21. The example of chapter 21. -/
import Derived.Test.YtidekfbgjghcjaaGreatG9
import Derived.Test.YtidekfbgjghcjaaGreatG1
import Derived.Deep.DeepAppendWide
import Derived.OneCell
namespace Go.Proofs.YtidekfbgjghcjaaGreat
set_option linter.unusedSimpArgs false
set_option linter.unusedVariables false
open Go Go.RowKit
set_option linter.unusedVariables false

theorem infoRcp : (Tryz.prog.info? 37).map (fun i => (i.zero, i.size, i.bytes)) = some (some (.agg Rcp.zero.cells.toArray), 11, 120) := by kernel_rfl
/-- The receipts of the closures up to a place. -/
def allS (l : List Sld) (k : Nat) : List Rcp := (List.range k).filterMap (fun (j : Nat) => if (makeS l (j : Int)).2 = 0 then some (makeS l (j : Int)).1 else none)
theorem allS_succ (l : List Sld) (k : Nat) : allS l (k + 1) = allS l k ++ (if (makeS l (k : Int)).2 = 0 then [(makeS l (k : Int)).1] else []) := by
  unfold allS
  rw [List.range_succ, List.filterMap_append]
  congr 1
  by_cases h : (makeS l (k : Int)).2 = 0
  · simp [h]
  · simp [h]
def flatR (ys : List Rcp) : List Value := ys.flatMap Rcp.cells
theorem flatR_snoc (ys : List Rcp) (y : Rcp) : flatR (ys ++ [y]) = flatR ys ++ y.cells := by simp [flatR]

end Go.Proofs.YtidekfbgjghcjaaGreat
namespace Go.Proofs.YtidekfbgjghcjaaGreat
set_option linter.unusedSimpArgs false
set_option linter.unusedVariables false
open Go Go.RowKit
set_option linter.unusedVariables false

theorem allS_len (l : List Sld) (k : Nat) : (allS l k).length ≤ k := by
  unfold allS
  exact Nat.le_trans (List.length_filterMap_le _ _) (by simp)

end Go.Proofs.YtidekfbgjghcjaaGreat
namespace Go.Proofs.YtidekfbgjghcjaaGreat
set_option linter.unusedSimpArgs false
set_option linter.unusedVariables false
open Go Go.RowKit
set_option linter.unusedVariables false

def closeSld (r t : ByteArray) : Sld := ⟨⟨1, 0, 0, 0, 0, 0, r, ⟨#[]⟩⟩, t⟩
def n32 : ByteArray := ⟨(List.replicate 32 (0 : UInt8)).toArray⟩
theorem made21 {r t : ByteArray} (hr : r.size = 32) (ht : t.size = 32) : makeS [closeSld r t] 0 = (⟨0, ⟨1, 0, 0, 0, 0, 0, r, ⟨#[]⟩⟩, n32, t⟩, 0) := by
  have hx : ([closeSld r t] : List Sld)[0]? = some (closeSld r t) := rfl
  have h1 := makeS_at hx rfl
  have hl : lastB (([closeSld r t] : List Sld).take 0) = n32 := rfl
  have hok : rcpOk (rcpAt [closeSld r t] 0 (closeSld r t)) = true := by
    have e2 : n32.size = 32 := rfl
    simp only [rcpOk, rcpAt, hl, e2, recOk, recKind, closeSld, hr, ht]
    rfl
  rw [hok] at h1
  exact h1
end Go.Proofs.YtidekfbgjghcjaaGreat
