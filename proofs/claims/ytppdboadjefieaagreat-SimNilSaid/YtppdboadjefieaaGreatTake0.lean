/- What bytes begin with: texts, numbers (chapter 1). No program in sight. -/
import Derived.Test.YtppdboadjefieaaGreatG5
namespace Go.Proofs.YtppdboadjefieaaGreat
set_option linter.unusedSimpArgs false
set_option linter.unusedVariables false
open Go
set_option linter.unusedVariables false

theorem beNum_beBytes (w n : Nat) (h : n < 256 ^ w) : beNum (beBytes w n) = n := by
  induction w generalizing n with
  | zero => simp at h; subst h; rfl
  | succ w ih =>
    unfold beBytes
    rw [beNum_snoc, ih (n / 256) (by rw [Nat.pow_succ] at h; omega)]
    have : (UInt8.ofNat (n % 256)).toNat = n % 256 := by simp [UInt8.toNat_ofNat']
    rw [this]
    omega
theorem snoc_of {l : List UInt8} {w : Nat} (h : l.length = w + 1) : ∃ (m : List UInt8) (b : UInt8), l = m ++ [b] ∧ m.length = w := by
  refine ⟨l.dropLast, l.getLast (by intro e; rw [e] at h; simp at h), (List.dropLast_concat_getLast _).symm, by rw [List.length_dropLast]; omega⟩
theorem beBytes_beNum : ∀ (w : Nat) (l : List UInt8), l.length = w → beBytes w (beNum l) = l := by
  intro w
  induction w with
  | zero => intro l h; rw [List.length_eq_zero_iff] at h; subst h; rfl
  | succ w ih =>
    intro l h
    obtain ⟨m, b, rfl, hm⟩ := snoc_of h
    have hb := b.toNat_lt
    unfold beBytes
    rw [beNum_snoc, show (256 * beNum m + b.toNat) / 256 = beNum m by omega, show (256 * beNum m + b.toNat) % 256 = b.toNat by omega, ih m hm]
    simp

/-- The text that bytes begin with, and what is behind it. -/
def cutS (l : List UInt8) : Option (List UInt8 × List UInt8) :=
  if l.length < 4 ∨ l.length - 4 < beNum (l.take 4) then none else some ((l.drop 4).take (beNum (l.take 4)), (l.drop 4).drop (beNum (l.take 4)))
theorem cutS_text {t s : List UInt8} (h : t.length < 4294967296) : cutS (textL t ++ s) = some (t, s) := by
  have e1 : (textL t ++ s).take 4 = beBytes 4 t.length := by
    unfold textL
    rw [List.append_assoc, List.take_append_of_le_length (by rw [beBytes_length]; omega), List.take_of_length_le (by rw [beBytes_length]; omega)]
  have e2 : (textL t ++ s).drop 4 = t ++ s := by
    unfold textL
    rw [List.append_assoc, List.drop_append_of_le_length (by rw [beBytes_length]; omega), List.drop_of_length_le (by rw [beBytes_length]; omega), List.nil_append]
  unfold cutS
  rw [e1, e2, beNum_beBytes 4 t.length (by simpa using h)]
  have e3 : (textL t ++ s).length = 4 + t.length + s.length := by unfold textL; simp [beBytes_length]; omega
  rw [if_neg (by rw [e3]; omega)]
  simp
theorem cutS_back {l t s : List UInt8} (h : cutS l = some (t, s)) : l = textL t ++ s ∧ t.length < 4294967296 := by
  unfold cutS at h
  split at h
  · cases h
  · next hc =>
    injection h with h
    injection h with h1 h2
    have hlt := beNum_lt (l.take 4)
    have hl4 : (l.take 4).length = 4 := by rw [List.length_take]; omega
    rw [hl4] at hlt
    have htl : t.length = beNum (l.take 4) := by rw [← h1, List.length_take, List.length_drop]; omega
    refine ⟨?_, by rw [htl]; simpa using hlt⟩
    unfold textL
    rw [htl, beBytes_beNum 4 _ hl4, ← h1, ← h2, List.append_assoc, List.take_append_drop, List.take_append_drop]
theorem cutS_len {l t s : List UInt8} (h : cutS l = some (t, s)) : t.length ≤ l.length ∧ s.length ≤ l.length := by
  rw [(cutS_back h).1]
  unfold textL
  simp
  omega

/-- Is there a number of these bytes? -/
def getOk (l : List UInt8) : Bool := decide (1 ≤ l.length) && decide (l.length ≤ 8) && decide (beNum l < 9223372036854775808)
theorem getOk_iff {l : List UInt8} : getOk l = true ↔ (1 ≤ l.length ∧ l.length ≤ 8 ∧ beNum l < 9223372036854775808) := by simp [getOk, and_assoc]
/-- The numbers of bytes. -/
def unpackS : List Nat → List UInt8 → Option (List Int)
  | [], _ => some []
  | w :: ws, l => if getOk (l.take w) then (unpackS ws (l.drop w)).map (((beNum (l.take w) : Nat) : Int) :: ·) else none
end Go.Proofs.YtppdboadjefieaaGreat
