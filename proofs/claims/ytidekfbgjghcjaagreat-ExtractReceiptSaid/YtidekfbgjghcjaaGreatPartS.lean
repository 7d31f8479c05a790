/- Two rows of sealed records: the first place at which they part (chapter 20, P20.5). No program in sight. -/
import Derived.Test.YtidekfbgjghcjaaGreatG8
namespace Go.Proofs.YtidekfbgjghcjaaGreat
set_option linter.unusedSimpArgs false
set_option linter.unusedVariables false
open Go
set_option linter.unusedVariables false

/-- The first place of theirs at which two rows are not the same. -/
def PartAt (l m : List Sld) (k : Nat) : Prop := k < m.length ∧ l[k]? ≠ m[k]? ∧ ∀ j, j < k → l[j]? = m[j]?
/-- Nowhere. -/
def NoPart (l m : List Sld) : Prop := ∀ j, j < m.length → l[j]? = m[j]?
theorem part_or_to (l m : List Sld) : ∀ n, n ≤ m.length → (∀ j, j < n → l[j]? = m[j]?) ∨ ∃ k, PartAt l m k := by
  intro n
  induction n with
  | zero => intro _; exact .inl (fun j hj => by omega)
  | succ n ih =>
    intro hn
    rcases ih (by omega) with h | h
    · by_cases e : l[n]? = m[n]?
      · left
        intro j hj
        by_cases hjn : j = n
        · subst hjn; exact e
        · exact h j (by omega)
      · exact .inr ⟨n, by omega, e, h⟩
    · exact .inr h
theorem part_or (l m : List Sld) : NoPart l m ∨ ∃ k, PartAt l m k := part_or_to l m m.length (Nat.le_refl _)
theorem PartAt.one {l m : List Sld} {j k : Nat} (h : PartAt l m j) (h' : PartAt l m k) : j = k := by
  rcases Nat.lt_trichotomy j k with hlt | rfl | hgt
  · exact absurd (h'.2.2 j hlt) h.2.1
  · rfl
  · exact absurd (h.2.2 k hgt) h'.2.1
theorem PartAt.not {l m : List Sld} {k : Nat} (h : PartAt l m k) : ¬ NoPart l m := fun hn => h.2.1 (hn k h.1)
end Go.Proofs.YtidekfbgjghcjaaGreat
