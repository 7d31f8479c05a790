/- Walks of the documents' bit, letter, five, Letters (chapter 39). -/
import Derived.Test.YtgfaadggalnbgaaGreatDoorWArmor1
import Derived.Test.YtgfaadggalnbgaaGreatDoorG5
import Derived.Test.YtgfaadggalnbgaaGreatDoorG3
namespace Go.Proofs.YtgfaadggalnbgaaGreatDoor
set_option linter.unusedSimpArgs false
set_option linter.unusedVariables false
open Go Go.RowKit
set_option linter.unusedVariables false

theorem ret_int {a b : Int} (h : a = b) : Ending.returned (Value.int .i64 a) = Ending.returned (Value.int .i64 b) := by rw [h]

set_option maxHeartbeats 1000000 in
theorem bit_walk (s : ByteArray) (i : Nat) (w : World) (hi : i ≤ 1073741824) :
    Calls Tryz.prog 38 #[.string s, .int .i64 i] w fun e w' => e = .returned (.int .i64 (bitN s.data.toList i : Nat)) ∧ w = w' := by
  have hl : s.data.toList.length = s.size := rfl
  have HL := Lib.hid hl; clear hl
  by_cases c1 : s.size ≤ i / 8
  · have d1 : (s.size : Int) ≤ (i : Int) / 8 := by omega
    go_enter Tryz.func38, Tryz.ntmps38
    go_wp2_with fail
    go_ret
    refine ⟨ret_int ?_, rfl⟩
    unfold bitN
    rw [if_neg (by rw [HL.out]; omega)]
    rfl
  · have d1 : (i : Int) / 8 < s.size := by omega
    have d2 : i / 8 < s.size := by omega
    obtain ⟨c, hc⟩ : ∃ c, c = s[i / 8] := ⟨_, rfl⟩
    have HC := Lib.hid hc; clear hc
    have hc8 := c.toNat_lt
    obtain ⟨r, Hr⟩ : ∃ r, Hid (r = i % 8) := ⟨_, rfl⟩
    have hr : r ≤ 7 := by rw [Hr.out]; omega
    have er : (i : Int) % 8 = (r : Int) := by rw [Hr.out]; omega
    go_enter Tryz.func38, Tryz.ntmps38
    go_wp2_with fail
    have ER := Lib.hid er; clear er
    rw [← HC.out]
    go_loop [5, 6] (fun n k => ∃ m x : Nat, r ≤ m ∧ m ≤ 7 ∧ k = .int .i64 m ∧ n = .int .i64 x ∧ x ≤ 255 ∧ x = c.toNat / 2 ^ (m - r)) (fun _ k => 7 - (intOf k).toNat)
    case atStart => exact ⟨r, c.toNat, by omega, hr, congrArg (Value.int .i64) ER.out, congrArg (Value.int .i64) (IntWalk.wrap64_in _ (by omega)), by omega, by simp⟩
    case round =>
      obtain ⟨m, x, hm1, hm2, rfl, rfl, hx, hxe⟩ := hrel
      have HX := Lib.hid hxe; clear hxe
      by_cases hlt : m < 7
      · have hlt' : (m : Int) < 7 := by omega
        go_wp2_with fail
        go_round
        case rel =>
          refine ⟨m + 1, x / 2, by omega, by omega, by go_num, by simp, by omega, ?_⟩
          rw [HX.out, show m + 1 - r = (m - r) + 1 by omega, Nat.pow_succ, Nat.div_div_eq_div_mul]
        case measure => simp [intOf]; omega
      · obtain rfl : m = 7 := by omega
        go_wp2_with fail
        go_ret
        refine ⟨ret_int ?_, rfl⟩
        unfold bitN
        rw [if_pos (by rw [HL.out]; exact d2), List.getD_eq_getElem?_getD, List.getElem?_eq_getElem (by rw [HL.out]; exact d2), Option.getD_some]
        rw [show s.data.toList[i / 8]'(by rw [HL.out]; exact d2) = c from HC.out.symm, ← Hr.out, ← HX.out]
        simp

set_option maxRecDepth 100000 in
set_option maxHeartbeats 1000000 in
theorem rletter_walk (n : Nat) (w : World) (hn : n < 32) :
    Calls Tryz.prog 39 #[.int .i64 n] w fun e w' => ∃ r, e = .returned (.string r) ∧ Txt r [letterB n] ∧ Below w.heap.size w w' := by
  have hn' : (n : Int) < 32 := by omega
  obtain ⟨c, Hc⟩ : ∃ c : UInt8, Hid (c = letterB n) := ⟨_, rfl⟩
  by_cases h : n < 26
  · have h' : (n : Int) < 26 := by omega
    have ec : (97 : Int) + (n : Int) = ((c.toNat : Nat) : Int) := by
      rw [Hc.out]; have : ∀ n, n < 26 → 97 + n = (letterB n).toNat := by decide
      have := this n h; omega
    have hconv := conv_one c (97 + (n : Int)) ec
    clear ec
    go_enter Tryz.func39, Tryz.ntmps39
    go_wp2_with fail
    go_ret
    exact ⟨_, rfl, (Txt.mk [c]).cast (by rw [Hc.out]), (Below.refl _ _).alloc (Nat.le_refl _) _⟩
  · have h' : (26 : Int) ≤ n := by omega
    have ec : (24 : Int) + (n : Int) = ((c.toNat : Nat) : Int) := by
      rw [Hc.out]; have : ∀ n, n < 32 → ¬ n < 26 → 24 + n = (letterB n).toNat := by decide
      have := this n hn h; omega
    have hconv := conv_one c (24 + (n : Int)) ec
    clear ec
    go_enter Tryz.func39, Tryz.ntmps39
    go_wp2_with fail
    go_ret
    exact ⟨_, rfl, (Txt.mk [c]).cast (by rw [Hc.out]), (Below.refl _ _).alloc (Nat.le_refl _) _⟩

/-- Horner's sum of the first k bits of a letter. -/
def hornerN (l : List UInt8) (i : Nat) : Nat → Nat
  | 0 => 0
  | k + 1 => 2 * hornerN l i k + bitN l (i + k)
theorem bitN_lt (l : List UInt8) (i : Nat) : bitN l i < 2 := by unfold bitN; split <;> omega
theorem hornerN_lt (l : List UInt8) (i k : Nat) : hornerN l i k < 2 ^ k := by
  induction k with
  | zero => simp [hornerN]
  | succ k ih => have := bitN_lt l (i + k); rw [hornerN, Nat.pow_succ]; omega
theorem hornerN_five (l : List UInt8) (j : Nat) : hornerN l (5 * j) 5 = dig (nOf l) (8 * l.length) 5 j := by
  rw [dig_five]
  simp only [hornerN, bitN_eq, Nat.add_zero]
  omega

set_option maxRecDepth 100000 in
set_option maxHeartbeats 1000000 in
theorem rletters_walk (s : ByteArray) (w : World) (hs : s.size ≤ 16777216) :
    Calls Tryz.prog 20 #[.string s] w fun e w' => ∃ r, e = .returned (.string r) ∧ Txt r (letL s.data.toList) ∧ Below w.heap.size w w' := by
  have hs' : (s.size : Int) ≤ 16777216 := by omega
  have hl : s.data.toList.length = s.size := rfl
  have HL := Lib.hid hl; clear hl
  go_enter Tryz.func20, Tryz.ntmps20
  go_wp2_with fail
  go_loopw [3, 4] (fun vo vi wr => ∃ (i m : Nat) (o : ByteArray), vi = .int .i64 i ∧ vo = .string o ∧ i = 5 * m ∧ i ≤ 8 * s.size + 4 ∧ Txt o (lettersTo (nOf s.data.toList) (8 * s.size) m) ∧ Below w.heap.size w wr) (fun _ vi _ => 8 * s.size + 5 - (intOf vi).toNat)
  case atStart => exact ⟨0, 0, ⟨#[]⟩, rfl, rfl, rfl, by omega, Txt.mk [], Below.refl _ _⟩
  case round =>
    obtain ⟨i, m, o, rfl, rfl, him, hi, tou, hbel⟩ := hrel
    have HM := Lib.hid him; clear him
    have so : o.size ≤ 33554432 := by rw [tou.size, lettersTo_length]; have := HM.out; omega
    by_cases hlt : i < 8 * s.size
    · have hlt' : (i : Int) < 8 * s.size := by omega
      obtain ⟨wo, rfl⟩ : ∃ wo : World, wo = wr := ⟨_, rfl⟩
      go_wp2_with fail
      go_loopw [5, 6] (fun vn vk wr => ∃ k n : Nat, k ≤ 5 ∧ vk = .int .i64 k ∧ vn = .int .i64 n ∧ n = hornerN s.data.toList i k ∧ n < 32 ∧ Below w.heap.size w wr) (fun _ vk _ => 5 - (intOf vk).toNat)
      case atStart => exact ⟨0, 0, by omega, rfl, rfl, rfl, by omega, hbel⟩
      case round =>
        clear hbel
        obtain ⟨k, n, hk, rfl, rfl, hn, hn32, hbel⟩ := hrel
        have HN := Lib.hid hn; clear hn
        by_cases hlt5 : k < 5
        · have hlt5' : (k : Int) < 5 := by omega
          obtain ⟨bt', Hb⟩ : ∃ b, Hid (b = bitN s.data.toList (i + k)) := ⟨_, rfl⟩
          have hb2 : bt' < 2 := by rw [Hb.out]; exact bitN_lt _ _
          go_wp2_with fail
          refine (bit_walk s (i + k) _ (by omega)).mono ?_
          rintro e w3 ⟨rfl, rfl⟩
          rw [← Hb.out]
          go_wp2_with fail
          go_roundw
          case rel =>
            refine ⟨k + 1, 2 * n + bt', by omega, by go_num, by go_num, by rw [HN.out, Hb.out]; rfl, ?_, hbel⟩
            have h1 := hornerN_lt s.data.toList i (k + 1)
            have h2 : 2 ^ (k + 1) ≤ 2 ^ 5 := Nat.pow_le_pow_right (by omega) (by omega)
            rw [hornerN, ← HN.out, ← Hb.out] at h1
            omega
          case measure => simp [intOf]; omega
        · obtain rfl : k = 5 := by omega
          go_wp2_with fail
          refine (rletter_walk n _ hn32).mono ?_
          rintro e w3 ⟨r, rfl, tr, hb3⟩
          have sr : r.size ≤ 1 := by rw [tr.size]; simp
          go_wp2_with fail
          go_roundw
          case rel =>
            refine ⟨i + 5, m + 1, o ++ r, by go_num, rfl, by have := HM.out; omega, by omega, ?_, hbel.trans (hb3.mono hbel.size)⟩
            refine (tou.append tr).cast ?_
            rw [lettersTo_succ, HN.out, HM.out, hornerN_five, HL.out]
          case measure => simp [intOf]; omega
    · have hge : (8 : Int) * s.size ≤ i := by omega
      go_wp2_with fail
      go_ret
      refine ⟨o, rfl, tou.cast ?_, hbel⟩
      unfold letL
      rw [HL.out, show (8 * s.size + 4) / 5 = m by have := HM.out; omega]
end Go.Proofs.YtgfaadggalnbgaaGreatDoor
