/- Bytes as letters of five bits, over lists and numbers. No program in sight. -/
import Derived.WalkKit
namespace Go.Proofs.YtgfaadggalnbgaaGreatDoor
set_option linter.unusedSimpArgs false
set_option linter.unusedVariables false
open Go

/-- The number that bytes are. -/
def nOf (l : List UInt8) : Nat := l.foldl (fun n b => 256 * n + b.toNat) 0
theorem nOf_snoc (l : List UInt8) (b : UInt8) : nOf (l ++ [b]) = 256 * nOf l + b.toNat := by simp [nOf]
theorem nOf_take (l : List UInt8) (k : Nat) (h : k < l.length) : nOf (l.take (k + 1)) = 256 * nOf (l.take k) + l[k].toNat := by
  rw [List.take_succ_eq_append_getElem h, nOf_snoc]

/-- Digit j, of w bits, of a stream of b bits that is the number S; noughts behind it. -/
def dig (S b w j : Nat) : Nat := S * 2 ^ (w * (j + 1)) / 2 ^ b % 2 ^ w

theorem dig_in {S b w j : Nat} (h : w * (j + 1) ≤ b) : dig S b w j = S / 2 ^ (b - w * (j + 1)) % 2 ^ w := by
  unfold dig
  have : 2 ^ b = 2 ^ (w * (j + 1)) * 2 ^ (b - w * (j + 1)) := by rw [← Nat.pow_add]; congr 1; omega
  rw [this, Nat.mul_comm S, Nat.mul_div_mul_left _ _ (Nat.two_pow_pos _)]
/-- More behind turns nothing ahead. -/
theorem dig_more {S b w j c r : Nat} (h : w * (j + 1) ≤ b) (hr : r < 2 ^ c) : dig (S * 2 ^ c + r) (b + c) w j = dig S b w j := by
  rw [dig_in h, dig_in (by omega)]
  rw [show b + c - w * (j + 1) = c + (b - w * (j + 1)) by omega, Nat.pow_add, ← Nat.div_div_eq_div_mul]
  rw [Nat.add_comm, Nat.add_mul_div_right _ _ (Nat.two_pow_pos _), Nat.div_eq_of_lt hr, Nat.zero_add]

theorem half_step (S b k : Nat) : S * 2 ^ (k + 1) / 2 ^ b = 2 * (S * 2 ^ k / 2 ^ b) + dig S b 1 k := by
  have h : S * 2 ^ (k + 1) / 2 ^ b / 2 = S * 2 ^ k / 2 ^ b := by
    rw [Nat.pow_succ, ← Nat.mul_assoc, Nat.div_div_eq_div_mul, Nat.mul_comm (2 ^ b) 2, Nat.mul_comm (S * 2 ^ k) 2, Nat.mul_div_mul_left _ _ (by omega)]
  have e : dig S b 1 k = S * 2 ^ (k + 1) / 2 ^ b % 2 := by simp [dig]
  rw [e, ← h]
  omega
theorem dig_five (S b j : Nat) : dig S b 5 j = 16 * dig S b 1 (5 * j) + 8 * dig S b 1 (5 * j + 1) + 4 * dig S b 1 (5 * j + 2) + 2 * dig S b 1 (5 * j + 3) + dig S b 1 (5 * j + 4) := by
  have h : ∀ k, dig S b 1 k < 2 := fun k => Nat.mod_lt _ (by decide)
  have e : dig S b 5 j = S * 2 ^ (5 * j + 4 + 1) / 2 ^ b % 32 := by unfold dig; rw [show 5 * (j + 1) = 5 * j + 4 + 1 by omega]
  rw [e, half_step, half_step S b (5 * j + 3), half_step S b (5 * j + 2), half_step S b (5 * j + 1), half_step S b (5 * j)]
  have h0 := h (5 * j); have h1 := h (5 * j + 1); have h2 := h (5 * j + 2); have h3 := h (5 * j + 3); have h4 := h (5 * j + 4)
  omega

/-- A bit of bytes, the highest of the first byte first; 0 behind them. -/
def bitN (l : List UInt8) (i : Nat) : Nat := if i / 8 < l.length then (l.getD (i / 8) 0).toNat / 2 ^ (7 - i % 8) % 2 else 0

theorem nOf_append (l m : List UInt8) : nOf (l ++ m) = nOf l * 2 ^ (8 * m.length) + nOf m := by
  induction m generalizing l with
  | nil => simp [nOf]
  | cons b r ih =>
    rw [show l ++ b :: r = (l ++ [b]) ++ r by simp, ih, nOf_snoc, show b :: r = [b] ++ r by rfl, ih [b]]
    simp only [List.length_append, List.length_cons, List.length_nil]
    rw [show 8 * (0 + 1 + r.length) = 8 + 8 * r.length by omega, Nat.pow_add, show nOf [b] = b.toNat by simp [nOf], Nat.add_mul]
    rw [show 256 * nOf l * 2 ^ (8 * r.length) = nOf l * (2 ^ 8 * 2 ^ (8 * r.length)) by rw [Nat.mul_comm 256, Nat.mul_assoc]]
    omega
theorem nOf_lt (l : List UInt8) : nOf l < 2 ^ (8 * l.length) := by
  induction l with
  | nil => simp [nOf]
  | cons b r ih =>
    rw [show b :: r = [b] ++ r by rfl, nOf_append, show nOf [b] = b.toNat by simp [nOf]]
    have hb := b.toNat_lt
    rw [List.length_append, Nat.mul_add, Nat.pow_add]
    simp only [List.length_cons, List.length_nil]
    have : b.toNat * 2 ^ (8 * r.length) + 2 ^ (8 * r.length) ≤ 2 ^ (8 * (0 + 1)) * 2 ^ (8 * r.length) := by
      rw [← Nat.succ_mul]; exact Nat.mul_le_mul_right _ (by omega)
    omega

theorem bitN_eq (l : List UInt8) (i : Nat) : bitN l i = dig (nOf l) (8 * l.length) 1 i := by
  unfold bitN
  split
  · rename_i h
    obtain ⟨q, hq⟩ : ∃ q, q = i / 8 := ⟨_, rfl⟩
    rw [← hq] at h ⊢
    have hs : l = l.take q ++ (l[q] :: l.drop (q + 1)) := by rw [← List.drop_eq_getElem_cons h, List.take_append_drop]
    have e : nOf l = (nOf (l.take q) * 256 + l[q].toNat) * 2 ^ (8 * (l.length - q - 1)) + nOf (l.drop (q + 1)) := by
      conv => lhs; rw [hs]
      rw [show l.take q ++ (l[q] :: l.drop (q + 1)) = (l.take q ++ [l[q]]) ++ l.drop (q + 1) by simp, nOf_append, nOf_snoc, List.length_drop]
      rw [show l.length - (q + 1) = l.length - q - 1 by omega, Nat.mul_comm 256]
    have hr : nOf (l.drop (q + 1)) < 2 ^ (8 * (l.length - q - 1)) := by
      have := nOf_lt (l.drop (q + 1))
      rwa [List.length_drop, show l.length - (q + 1) = l.length - q - 1 by omega] at this
    rw [e, show 8 * l.length = 8 * (q + 1) + 8 * (l.length - q - 1) by omega, dig_more (by omega) hr, dig_in (by omega)]
    rw [show 8 * (q + 1) - 1 * (i + 1) = 7 - i % 8 by omega, List.getD_eq_getElem?_getD, List.getElem?_eq_getElem h, Option.getD_some]
    have hk : 7 - i % 8 < 8 := by omega
    have e2 : nOf (l.take q) * 256 = nOf (l.take q) * 2 ^ (8 - (7 - i % 8)) * 2 ^ (7 - i % 8) := by rw [Nat.mul_assoc, ← Nat.pow_add, show 8 - (7 - i % 8) + (7 - i % 8) = 8 by omega]
    rw [e2, Nat.add_comm, Nat.add_mul_div_right _ _ (Nat.two_pow_pos _)]
    rw [show 8 - (7 - i % 8) = (7 - (7 - i % 8)) + 1 by omega, Nat.pow_succ, ← Nat.mul_assoc]
    omega
  · rename_i h
    unfold dig
    rw [show 2 ^ (1 * (i + 1)) = 2 ^ (8 * l.length) * 2 ^ (i - 8 * l.length) * 2 by rw [← Nat.pow_add, ← Nat.pow_succ]; congr 1; omega]
    rw [← Nat.mul_assoc, ← Nat.mul_assoc, Nat.mul_comm (nOf l), Nat.mul_assoc, Nat.mul_assoc, Nat.mul_div_cancel_left _ (Nat.two_pow_pos _)]
    rw [← Nat.mul_assoc]
    omega

/-- The letter of five bits. -/
def letterB (n : Nat) : UInt8 := if n < 26 then UInt8.ofNat (97 + n) else UInt8.ofNat (24 + n)
/-- The first m letters of a stream. -/
def lettersTo (S b m : Nat) : List UInt8 := (List.range m).map fun j => letterB (dig S b 5 j)
/-- Bytes' letters. -/
def letL (l : List UInt8) : List UInt8 := lettersTo (nOf l) (8 * l.length) ((8 * l.length + 4) / 5)
theorem lettersTo_succ (S b m : Nat) : lettersTo S b (m + 1) = lettersTo S b m ++ [letterB (dig S b 5 m)] := by simp [lettersTo, List.range_succ]
theorem lettersTo_length (S b m : Nat) : (lettersTo S b m).length = m := by simp [lettersTo]
theorem lettersTo_more {S b m c r : Nat} (h : 5 * m ≤ b) (hr : r < 2 ^ c) : lettersTo (S * 2 ^ c + r) (b + c) m = lettersTo S b m := by
  unfold lettersTo
  refine List.map_congr_left fun j hj => ?_
  have := List.mem_range.1 hj
  rw [dig_more (by omega) hr]
theorem letL_length (l : List UInt8) : (letL l).length = (8 * l.length + 4) / 5 := lettersTo_length _ _ _

/-- The bits of a letter. -/
def fiveB (c : UInt8) : Option Nat := if 97 ≤ c.toNat ∧ c.toNat ≤ 122 then some (c.toNat - 97) else if 50 ≤ c.toNat ∧ c.toNat ≤ 55 then some (c.toNat - 24) else none
theorem fiveB_lt {c : UInt8} {n : Nat} (h : fiveB c = some n) : n < 32 := by
  unfold fiveB at h
  split at h
  · simp at h; omega
  · split at h
    · simp at h; omega
    · simp at h
/-- The number that letters' bits are. -/
def t32 (l : List Nat) : Nat := l.foldl (fun n v => 32 * n + v) 0
theorem t32_snoc (l : List Nat) (v : Nat) : t32 (l ++ [v]) = 32 * t32 l + v := by simp [t32]
/-- The first m bytes of a stream. -/
def bytesTo (S b m : Nat) : List UInt8 := (List.range m).map fun j => UInt8.ofNat (dig S b 8 j)
theorem bytesTo_succ (S b m : Nat) : bytesTo S b (m + 1) = bytesTo S b m ++ [UInt8.ofNat (dig S b 8 m)] := by simp [bytesTo, List.range_succ]
theorem bytesTo_length (S b m : Nat) : (bytesTo S b m).length = m := by simp [bytesTo]
theorem bytesTo_more {S b m c r : Nat} (h : 8 * m ≤ b) (hr : r < 2 ^ c) : bytesTo (S * 2 ^ c + r) (b + c) m = bytesTo S b m := by
  unfold bytesTo
  refine List.map_congr_left fun j hj => ?_
  have := List.mem_range.1 hj
  rw [dig_more (by omega) hr]
/-- The bytes of five-bit numbers. -/
def rawL (v : List Nat) : List UInt8 := bytesTo (t32 v) (5 * v.length) (5 * v.length / 8)
/-- The bytes of letters, if they are any's. -/
def decL (t : List UInt8) : Option (List UInt8) :=
  match t.mapM fiveB with
  | none => none
  | some v => if letL (rawL v) = t then some (rawL v) else none

theorem letterB_five (n : Nat) (h : n < 32) : fiveB (letterB n) = some n := by
  have : ∀ n, n < 32 → fiveB (letterB n) = some n := by decide
  exact this n h
end Go.Proofs.YtgfaadggalnbgaaGreatDoor
