/- Walks of the documents' functions on numbers (chapters 01, 02): Get, turn. -/
import Derived.Test.YtacoibiafpdoaaaRef1
namespace Go.Proofs.Ytacoibiafpdoaaa
open Go Go.RowKit
set_option linter.unusedVariables false

/-- The number that bytes are. -/
def beNum (l : List UInt8) : Nat := l.foldl (fun n b => 256 * n + b.toNat) 0
theorem beNum_snoc (l : List UInt8) (b : UInt8) : beNum (l ++ [b]) = 256 * beNum l + b.toNat := by simp [beNum]
theorem beNum_take (l : List UInt8) (k : Nat) (h : k < l.length) : beNum (l.take (k + 1)) = 256 * beNum (l.take k) + l[k].toNat := by
  rw [List.take_succ_eq_append_getElem h, beNum_snoc]
theorem beNum_mono (l : List UInt8) (k : Nat) : beNum (l.take k) ≤ beNum l := by
  by_cases h : k < l.length
  · have : ∀ m, beNum (l.take k) ≤ beNum (l.take (k + m)) := by
      intro m
      induction m with
      | zero => exact Nat.le_refl _
      | succ m ih =>
        by_cases hm : k + m < l.length
        · rw [← Nat.add_assoc, beNum_take _ _ hm]; omega
        · rw [← Nat.add_assoc, List.take_of_length_le (i := k + m + 1) (by omega)]; rw [List.take_of_length_le (i := k + m) (by omega)] at ih; exact ih
    have := this (l.length - k)
    rwa [List.take_of_length_le (i := k + (l.length - k)) (by omega)] at this
  · rw [List.take_of_length_le (by omega)]; exact Nat.le_refl _
theorem beNum_lt (l : List UInt8) : beNum l < 256 ^ l.length := by
  have : ∀ k, k ≤ l.length → beNum (l.take k) < 256 ^ k := by
    intro k hk
    induction k with
    | zero => simp [beNum]
    | succ k ih =>
      have h1 := ih (by omega)
      have h2 := (l[k]'(by omega)).toNat_lt
      rw [beNum_take _ _ (by omega), Nat.pow_succ]
      omega
  have := this l.length (Nat.le_refl _)
  rwa [List.take_length] at this
theorem beNum_four (l : List UInt8) (h : l.length = 4) : beNum l = be32 l 0 := by
  match l, h with
  | [a, b, c, d], _ => simp [beNum, be32]; omega

/-- How Get ends. -/
def GetEnd (l : List UInt8) (e : Ending) : Prop :=
  ((1 ≤ l.length ∧ l.length ≤ 8 ∧ beNum l < 9223372036854775808) ∧ e = .returned (.tuple #[.int .i64 ((beNum l : Nat) : Int), .int .i64 0])) ∨
  (¬ (1 ≤ l.length ∧ l.length ≤ 8 ∧ beNum l < 9223372036854775808) ∧ e = .returned (.tuple #[.int .i64 0, .int .i64 3]))

/-- A number that is told to be what it is, and hidden. -/
theorem rget4_walk (s : ByteArray) (w : World) (h : s.size = 4) :
    Calls Try.prog 118 #[.string s] w fun e w' => e = .returned (.tuple #[.int .i64 ((be32 s.data.toList 0 : Nat) : Int), .int .i64 0]) ∧ w = w' := by
  have hl : s.data.toList.length = 4 := h
  have HL := Lib.hid hl; clear hl
  have h1 : (s.size : Int) = 4 := by omega
  have h2 : s.size = 4 := h
  clear h
  go_enter Try.func118, Try.ntmps118
  go_wp2_with fail
  go_loopw [4, 5] (fun a i wr => ∃ k : Nat, k ≤ 4 ∧ i = .int .i64 k ∧ a = .int .i64 ((beNum (s.data.toList.take k) : Nat) : Int) ∧ w = wr) (fun a i _ => 4 - (intOf i).toNat)
  case atStart => exact ⟨0, by omega, rfl, rfl, rfl⟩
  case round =>
    obtain ⟨k, hk, rfl, rfl, rfl⟩ := hrel
    obtain ⟨x, Hx⟩ : ∃ x, Hid (x = beNum (s.data.toList.take k)) := ⟨_, rfl⟩
    rw [← Hx.out]
    by_cases hlt : k < 4
    · have hlt' : (k : Int) < 4 := by omega
      have hk' : k < s.size := by omega
      have x0 : x < 4294967296 := by
        have h3 := beNum_lt (s.data.toList.take k)
        have h4 : (s.data.toList.take k).length = k := by rw [List.length_take, HL.out]; omega
        rw [h4, ← Hx.out] at h3
        exact Nat.lt_of_lt_of_le h3 (Nat.pow_le_pow_right (n := 256) (by omega) (show k ≤ 4 by omega))
      have x1 : (x : Int) < 4294967296 := by omega
      have hb := s[k].toNat_lt
      go_wp2_with fail
      go_roundw
      case rel =>
        refine ⟨k + 1, by omega, by go_num, ?_, by trivial⟩
        rw [beNum_take _ _ (by rw [HL.out]; exact hlt), ← Hx.out]
        simp
        rfl
      case measure => simp [intOf]; omega
    · obtain rfl : k = 4 := by omega
      have e4 : Hid (x = be32 s.data.toList 0) := by show x = _; rw [Hx.out, List.take_of_length_le (by rw [HL.out]; omega), beNum_four _ HL.out]
      go_wp2_with fail
      go_ret2
      exact ⟨by rw [e4.out]; rfl, rfl⟩

theorem i64_or_nat (a b : Nat) (ha : a < 9223372036854775808) (hb : b < 9223372036854775808) : bits .or .i64 (a : Int) (b : Int) = ((a ||| b : Nat) : Int) := by
  have hx : a ||| b < 2 ^ 63 := Nat.or_lt_two_pow (by omega) (by omega)
  show IntKind.i64.wrap ((BitVec.ofInt 64 (a : Int) ||| BitVec.ofInt 64 (b : Int)).toNat : Int) = _
  rw [BitVec.toNat_or, ofInt_u64 a (by omega), ofInt_u64 b (by omega), IntKind.wrap_i64]
  omega
theorem i64_xor_nat (a b : Nat) (ha : a < 9223372036854775808) (hb : b < 9223372036854775808) : bits .xor .i64 (a : Int) (b : Int) = ((a ^^^ b : Nat) : Int) := by
  have hx : a ^^^ b < 2 ^ 63 := Nat.xor_lt_two_pow (by omega) (by omega)
  show IntKind.i64.wrap ((BitVec.ofInt 64 (a : Int) ^^^ BitVec.ofInt 64 (b : Int)).toNat : Int) = _
  rw [BitVec.toNat_xor, ofInt_u64 a (by omega), ofInt_u64 b (by omega), IntKind.wrap_i64]
  omega
theorem i64_and_nat (a b : Nat) (ha : a < 9223372036854775808) (hb : b < 9223372036854775808) : bits .and .i64 (a : Int) (b : Int) = ((a &&& b : Nat) : Int) := by
  have hx : a &&& b < 2 ^ 63 := Nat.and_lt_two_pow _ (by omega)
  show IntKind.i64.wrap ((BitVec.ofInt 64 (a : Int) &&& BitVec.ofInt 64 (b : Int)).toNat : Int) = _
  rw [BitVec.toNat_and, ofInt_u64 a (by omega), ofInt_u64 b (by omega), IntKind.wrap_i64]
  omega

theorem turn_num (x k : Nat) (hx : x < 4294967296) (h0 : 0 < k) (h1 : k < 32) :
    (bits BinOp.or IntKind.i64 ((x : Int) / 2 ^ k) (wrap64 ((x : Int) * 2 ^ (32 - k)))).tmod 4294967296 = ((rotr x k : Nat) : Int) := by
  have e1 : (x : Int) * 2 ^ (32 - k) = ((x * 2 ^ (32 - k) : Nat) : Int) := by simp
  have e2 : (x : Int) / 2 ^ k = ((x / 2 ^ k : Nat) : Int) := by simp
  have l0 : (2 : Nat) ^ (32 - k) ≤ 2 ^ 31 := Nat.pow_le_pow_right (by omega) (by omega)
  have l1 : x * 2 ^ (32 - k) < 9223372036854775808 := by
    have : x * 2 ^ (32 - k) ≤ x * 2 ^ 31 := Nat.mul_le_mul_left _ l0
    omega
  have l2 : x / 2 ^ k < 9223372036854775808 := Nat.lt_of_le_of_lt (Nat.div_le_self _ _) (by omega)
  have e3 : wrap64 ((x * 2 ^ (32 - k) : Nat) : Int) = ((x * 2 ^ (32 - k) : Nat) : Int) := IntWalk.wrap64_in _ (by omega)
  rw [e1, e2, e3, i64_or_nat _ _ l2 l1, Int.tmod_eq_emod_of_nonneg (Int.natCast_nonneg _)]
  unfold rotr
  rw [Nat.shiftRight_eq_div_pow, Nat.shiftLeft_eq]
  rfl

theorem turn_walk (x : Nat) (k : Int) (w : World) (hx : x < 4294967296) (h0 : 0 < k) (h1 : k < 32) :
    Calls Try.prog 158 #[.int .i64 x, .int .i64 k] w fun e w' => e = .returned (.int .i64 ((rotr x k.toNat : Nat) : Int)) ∧ ∃ n, w' = w.drewN n := by
  have hf : Hid _ := turn_num x k.toNat hx (by omega) (by omega)
  have d0 : (0 : Int) ≤ k := by omega
  have d1 : (0 : Int) ≤ 32 - k := by omega
  have d2 : (x : Int) < 4294967296 := by omega
  go_enter Try.func158, Try.ntmps158
  go_wp2
  go_quiet (fail)
  go_wp2
  go_ret
  refine ⟨?_, _, rfl⟩
  show Ending.returned (Value.int IntKind.i64 _) = _
  rw [← hf.out, show (32 - k).toNat = 32 - k.toNat by omega]
end Go.Proofs.Ytacoibiafpdoaaa
