/- Walk of ChainSum: for every two rows of sealed records the law returns true. No condition. -/
import Derived.Test.YtidekfbgjghcjaaGreatG8
import Derived.Deep.RegionHeld3
import Derived.Deep.RegionWith
import Derived.Deep.DeepCutAuto
namespace Go.Proofs.YtidekfbgjghcjaaGreat
set_option linter.unusedSimpArgs false
set_option linter.unusedVariables false
open Go Go.RowKit
set_option linter.unusedVariables false

/-- What is summed at place j. -/
def textAt (l : List Sld) (j : Nat) (x : Sld) : List UInt8 := sumT (l.take j) ++ x.tag.data.toList
/-- No two unlike texts of one sum up to k. -/
def noClash (a b : List Sld) (k : Nat) : Prop := ∀ (j : Nat) (x y : Sld), j < k → a[j]? = some x → b[j]? = some y → textAt a j x ≠ textAt b j y → sha (textAt a j x) ≠ sha (textAt b j y)
def tagsSame (a b : List Sld) (k : Nat) : Prop := ∀ (j : Nat) (x y : Sld), j < k → a[j]? = some x → b[j]? = some y → x.tag.data.toList = y.tag.data.toList
theorem sums_same {a b : List Sld} (k : Nat) (ha : k ≤ a.length) (hb : k ≤ b.length) (h : tagsSame a b k) : sumT (a.take k) = sumT (b.take k) := by
  induction k with
  | zero => rfl
  | succ k ih =>
    obtain ⟨x, hx⟩ : ∃ x, a[k]? = some x := ⟨_, List.getElem?_eq_getElem (by omega)⟩
    obtain ⟨y, hy⟩ : ∃ x, b[k]? = some x := ⟨_, List.getElem?_eq_getElem (by omega)⟩
    rw [sumT_take _ _ _ hx, sumT_take _ _ _ hy, ih (by omega) (by omega) (fun j x y hj => h j x y (by omega)), h k x y (by omega) hx hy]
theorem tags_of_sums {a b : List Sld} (k : Nat) (ha : k ≤ a.length) (hb : k ≤ b.length) (hn : noClash a b k) (h : sumT (a.take k) = sumT (b.take k)) : tagsSame a b k := by
  induction k with
  | zero => intro j x y hj; omega
  | succ k ih =>
    obtain ⟨x, hx⟩ : ∃ x, a[k]? = some x := ⟨_, List.getElem?_eq_getElem (by omega)⟩
    obtain ⟨y, hy⟩ : ∃ x, b[k]? = some x := ⟨_, List.getElem?_eq_getElem (by omega)⟩
    rw [sumT_take _ _ _ hx, sumT_take _ _ _ hy] at h
    have e : textAt a k x = textAt b k y := Decidable.byContradiction fun hne => hn k x y (by omega) hx hy hne h
    obtain ⟨e1, e2⟩ := List.append_inj e (by rw [sumT_length, sumT_length])
    have hi := ih (by omega) (by omega) (fun j x y hj => hn j x y (by omega)) e1
    intro j x' y' hj hx' hy'
    by_cases hjk : j = k
    · subst hjk
      rw [hx] at hx'; rw [hy] at hy'
      obtain rfl := Option.some.inj hx'
      obtain rfl := Option.some.inj hy'
      exact e2
    · exact hi j x' y' (by omega) hx' hy'

theorem SldRow.take {w : World} {g o n c : Nat} {l : List Sld} (h : SldRow w (.slice (some ⟨g, o, none⟩) n c) l) (hg : g < w.heap.size) (hn : n = l.length) (hc : n ≤ c) (hr : ∀ (j : Nat) (x : Sld), l[j]? = some x → w.rangeAt g (o + j * 9) x.cells) {k : Nat} (hk : k ≤ l.length) : SldRow w (.slice (some ⟨g, o, none⟩) k c) (l.take k) := by
  refine .inr ⟨g, o, c, by rw [List.length_take, Nat.min_eq_left hk], by rw [List.length_take]; omega, hg, fun j x hx => ?_⟩
  by_cases hj : j < k
  · rw [List.getElem?_take_of_lt hj] at hx; exact hr j x hx
  · rw [List.getElem?_eq_none (by rw [List.length_take]; omega)] at hx; simp at hx

/-- A row with at least one record. -/
structure SldAt (w : World) (g o n c : Nat) (l : List Sld) : Prop where
  len : n = l.length
  cap : n ≤ c
  lt : g < w.heap.size
  at_ : ∀ (j : Nat) (x : Sld), l[j]? = some x → w.rangeAt g (o + j * 9) x.cells
theorem SldAt.below {w w' : World} {g o n c : Nat} {l : List Sld} (h : SldAt w g o n c l) {B : Nat} (hb : Below B w w') (hB : w.heap.size ≤ B) : SldAt w' g o n c l :=
  ⟨h.len, h.cap, by have := hb.size; have := h.lt; omega, fun j x hx i u hu => by rw [hb.cell (by show g < B; have := h.lt; omega)]; exact h.at_ j x hx i u hu⟩
theorem SldAt.take {w : World} {g o n c : Nat} {l : List Sld} (h : SldAt w g o n c l) {k : Nat} (hk : k ≤ n) : SldRow w (.slice (some ⟨g, o, none⟩) k c) (l.take k) := by
  have h1 := h.len
  have h2 := h.cap
  refine .inr ⟨g, o, c, by rw [List.length_take, Nat.min_eq_left (by omega)], by rw [List.length_take]; omega, h.lt, fun j x hx => ?_⟩
  by_cases hj : j < k
  · rw [List.getElem?_take_of_lt hj] at hx; exact h.at_ j x hx
  · rw [List.getElem?_eq_none (by rw [List.length_take]; omega)] at hx; simp at hx
theorem SldAt.row {w : World} {g o n c : Nat} {l : List Sld} (h : SldAt w g o n c l) : SldRow w (.slice (some ⟨g, o, none⟩) n c) l := by
  have := h.take (k := n) (Nat.le_refl _)
  rwa [List.take_of_length_le (by have := h.len; omega)] at this

end Go.Proofs.YtidekfbgjghcjaaGreat
