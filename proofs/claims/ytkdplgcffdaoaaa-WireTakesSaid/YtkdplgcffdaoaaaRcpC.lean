/- Walk of receipt.Check (chapter 21); what right sealed records say of their receipts. -/
import Derived.Test.YtkdplgcffdaoaaaG10
import Derived.Test.YtkdplgcffdaoaaaSealS
import Derived.Test.YtkdplgcffdaoaaaG5
namespace Go.Proofs.Ytkdplgcffdaoaaa
set_option linter.unusedSimpArgs false
set_option linter.unusedVariables false
open Go Go.RowKit
set_option linter.unusedVariables false

theorem flatR_at (ys : List Rcp) : ∀ (j : Nat) (y : Rcp), ys[j]? = some y → ∀ (i : Nat) (u : Value), y.cells[i]? = some u → (flatR ys)[j * 11 + i]? = some u := by
  induction ys with
  | nil => intro j y h; simp at h
  | cons a r ih =>
    intro j y h i u hu
    have ha : a.cells.length = 11 := rfl
    show (a.cells ++ flatR r)[_]? = _
    cases j with
    | zero =>
      simp at h
      subst h
      have := (List.getElem?_eq_some_iff.1 hu).1
      rw [List.getElem?_append_left (by omega), Nat.zero_mul, Nat.zero_add]
      exact hu
    | succ j =>
      rw [List.getElem?_append_right (by omega), ha, show (j + 1) * 11 + i - 11 = j * 11 + i by omega]
      exact ih j y (by simpa using h) i u hu
/-- What Check tells of a receipt. -/
def rchkS (root : ByteArray) (first : Int) (x : Rcp) : Int :=
  if ¬ root.size = 32 ∨ rcpOk x = false then 2
  else if x.r.epoch < first ∨ first < 0 then 2
  else if 4096 < x.r.epoch - first then 6
  else if tagC (atL root.data.toList first.toNat (x.r.epoch - first).toNat) x.was.data.toList x.seq x.r = x.tag.data.toList then 0 else 15
theorem rcpOk_rec {x : Rcp} (h : rcpOk x = true) : recOk x.r = true ∧ 0 ≤ x.r.epoch ∧ x.r.epoch ≤ 4294967295 := by
  simp only [rcpOk, Bool.and_eq_true, decide_eq_true_eq] at h
  have h1 := h.1.1.1.2
  have h2 := h1
  simp only [recOk, Bool.and_eq_true, decide_eq_true_eq] at h2
  exact ⟨h1, by omega, by omega⟩

end Go.Proofs.Ytkdplgcffdaoaaa
