/- Walk of ChainSum: for every two rows of sealed records the law returns true. No condition. -/
import Derived.Test.YtidekfbgjghcjaaGreatG8
import Derived.Deep.RegionHeld3
import Derived.Deep.RegionWith
import Derived.Deep.DeepCutAuto
namespace Go.Proofs.YtidekfbgjghcjaaGreat
set_option linter.unusedSimpArgs false
set_option linter.unusedVariables false
open Go Go.RowKit

theorem SldRow.take {w : World} {g o n c : Nat} {l : List Sld} (h : SldRow w (.slice (some ⟨g, o, none⟩) n c) l) (hg : g < w.heap.size) (hn : n = l.length) (hc : n ≤ c) (hr : ∀ (j : Nat) (x : Sld), l[j]? = some x → w.rangeAt g (o + j * 9) x.cells) {k : Nat} (hk : k ≤ l.length) : SldRow w (.slice (some ⟨g, o, none⟩) k c) (l.take k) := by
  refine .inr ⟨g, o, c, by rw [List.length_take, Nat.min_eq_left hk], by rw [List.length_take]; omega, hg, fun j x hx => ?_⟩
  by_cases hj : j < k
  · rw [List.getElem?_take_of_lt hj] at hx; exact hr j x hx
  · rw [List.getElem?_eq_none (by rw [List.length_take]; omega)] at hx; simp at hx

structure SldAt (w : World) (g o n c : Nat) (l : List Sld) : Prop where
  len : n = l.length
  cap : n ≤ c
  lt : g < w.heap.size
  at_ : ∀ (j : Nat) (x : Sld), l[j]? = some x → w.rangeAt g (o + j * 9) x.cells
end Go.Proofs.YtidekfbgjghcjaaGreat

