/- Armor's ends in one form. -/
import Derived.Test.YtgfaadggalnbgaaGreatDoorWArmRTake
import Derived.Test.YtgfaadggalnbgaaGreatDoorLaw39
namespace Go.Proofs.YtgfaadggalnbgaaGreatDoor
set_option linter.unusedSimpArgs false
set_option linter.unusedVariables false
open Go Go.RowKit
set_option linter.unusedVariables false

theorem APutEnd.nf {name s : List UInt8} {e : Ending} {ok : Bool} (h : APutEnd name s e) (ho : armOk name s = ok) : ∃ a, e = .returned (.tuple #[.string a, .int .i64 (if ok then 0 else 2)]) ∧ Txt a (if ok then armPut name s else []) := by
  rcases h with ⟨h1, r, h2, h3⟩ | ⟨h1, h2⟩
  · obtain rfl : ok = true := ho.symm.trans h1
    exact ⟨r, h2, h3⟩
  · obtain rfl : ok = false := ho.symm.trans h1
    exact ⟨_, h2, rfl⟩
theorem RPutEnd.nf {name s : List UInt8} {e : Ending} {ok : Bool} (h : RPutEnd name s e) (ho : armOk name s = ok) : ∃ a, e = .returned (.tuple #[.string a, .bool ok]) ∧ Txt a (if ok then armPut name s else []) := by
  rcases h with ⟨h1, r, h2, h3⟩ | ⟨h1, h2⟩
  · obtain rfl : ok = true := ho.symm.trans h1
    exact ⟨r, h2, h3⟩
  · obtain rfl : ok = false := ho.symm.trans h1
    exact ⟨_, h2, rfl⟩
theorem ATakeEnd.some {t : List UInt8} {e : Ending} {n s : List UInt8} (h : ATakeEnd t e) (ho : armTake t = some (n, s)) : ∃ a b, e = .returned (.tuple #[.string a, .string b, .int .i64 0]) ∧ Txt a n ∧ Txt b s := by
  rcases h with ⟨n', s', h1, a, b, h2, h3, h4⟩ | ⟨h1, _⟩
  · rw [ho] at h1
    injection h1 with h1
    injection h1 with h5 h6
    subst h5 h6
    exact ⟨a, b, h2, h3, h4⟩
  · rw [ho] at h1; cases h1
theorem ATakeEnd.none {t : List UInt8} {e : Ending} (h : ATakeEnd t e) (ho : armTake t = none) : e = .returned (.tuple #[.string ⟨#[]⟩, .string ⟨#[]⟩, .int .i64 3]) := by
  rcases h with ⟨n', s', h1, _⟩ | ⟨_, h⟩
  · rw [ho] at h1; cases h1
  · exact h
theorem RTakeEnd.some {t : List UInt8} {e : Ending} {n s : List UInt8} (h : RTakeEnd t e) (ho : armTake t = some (n, s)) : ∃ a b, e = .returned (.tuple #[.string a, .string b, .bool true]) ∧ Txt a n ∧ Txt b s := by
  rcases h with ⟨n', s', h1, a, b, h2, h3, h4⟩ | ⟨h1, _⟩
  · rw [ho] at h1
    injection h1 with h1
    injection h1 with h5 h6
    subst h5 h6
    exact ⟨a, b, h2, h3, h4⟩
  · rw [ho] at h1; cases h1
theorem RTakeEnd.none {t : List UInt8} {e : Ending} (h : RTakeEnd t e) (ho : armTake t = none) : e = .returned (.tuple #[.string ⟨#[]⟩, .string ⟨#[]⟩, .bool false]) := by
  rcases h with ⟨n', s', h1, _⟩ | ⟨_, h⟩
  · rw [ho] at h1; cases h1
  · exact h
theorem armPut_length (name s : List UInt8) : (armPut name s).length ≤ name.length + 4 * s.length + 40 := by
  unfold armPut wrapL
  rw [List.length_append, List.length_cons]
  have h1 := wrapN_length (armT name s).length (armT name s)
  have h2 : (armT name s).length ≤ 2 * s.length + 10 := by
    unfold armT
    rw [letL_length, List.length_append, List.length_take, sha_length]
    omega
  omega
theorem armOk_size {name s : List UInt8} (h : armOk name s = true) : name.length ≤ 16 ∧ s.length ≤ 4000 := by
  unfold armOk at h
  simp only [Bool.and_eq_true, decide_eq_true_eq] at h
  exact ⟨nameOk_len h.1, h.2⟩
theorem nameByte_no58 : ∀ c : UInt8, nameByte c = true → c ≠ 58 := by
  intro c h hc
  subst hc
  exact absurd h (by decide)
theorem armOk_no58 {name s : List UInt8} (h : armOk name s = true) : (58 : UInt8) ∉ name := by
  unfold armOk nameOk at h
  simp only [Bool.and_eq_true, List.all_eq_true] at h
  intro hh
  exact nameByte_no58 58 (h.1.2 58 hh) rfl
end Go.Proofs.YtgfaadggalnbgaaGreatDoor
