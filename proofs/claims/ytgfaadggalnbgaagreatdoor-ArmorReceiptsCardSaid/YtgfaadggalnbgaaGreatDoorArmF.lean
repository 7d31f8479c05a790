/- The documents' way to take letters apart, in plain words. -/
import Derived.Test.YtgfaadggalnbgaaGreatDoorArmS
namespace Go.Proofs.YtgfaadggalnbgaaGreatDoor
set_option linter.unusedSimpArgs false
set_option linter.unusedVariables false
open Go
set_option linter.unusedVariables false

/-- One byte of the letters: what stands ahead of the first 58, what stands behind it but the bytes 10, was it seen. -/
def stepF (p : List UInt8 × List UInt8 × Bool) (c : UInt8) : List UInt8 × List UInt8 × Bool :=
  if p.2.2 = false ∧ c = 58 then (p.1, p.2.1, true) else if p.2.2 = false then (p.1 ++ [c], p.2.1, false) else if c ≠ 10 then (p.1, p.2.1 ++ [c], true) else p
theorem foldF_seen : ∀ (l n r : List UInt8), l.foldl stepF (n, r, true) = (n, r ++ stripC 10 l, true) := by
  intro l
  induction l with
  | nil => intro n r; simp [stripC]
  | cons c l ih =>
    intro n r
    rw [List.foldl_cons]
    by_cases h : c = 10
    · subst h
      have e : stepF (n, r, true) 10 = (n, r, true) := by simp [stepF]
      rw [e, ih]
      simp [stripC]
    · have e : stepF (n, r, true) c = (n, r ++ [c], true) := by simp [stepF, h]
      rw [e, ih]
      simp [stripC, h]
theorem foldF_all : ∀ (l n : List UInt8), l.foldl stepF (n, [], false) = match splitC 58 l with | none => (n ++ l, [], false) | some (x, y) => (n ++ x, stripC 10 y, true) := by
  intro l
  induction l with
  | nil => intro n; simp [splitC]
  | cons c l ih =>
    intro n
    rw [List.foldl_cons]
    by_cases h : c = 58
    · subst h
      have e : stepF (n, [], false) 58 = (n, [], true) := by simp [stepF]
      rw [e, foldF_seen]
      simp [splitC]
    · have e : stepF (n, [], false) c = (n ++ [c], [], false) := by simp [stepF, h]
      rw [e, ih]
      cases hs : splitC 58 l with
      | none => simp [splitC, h, hs]
      | some p => simp [splitC, h, hs]
end Go.Proofs.YtgfaadggalnbgaaGreatDoor
