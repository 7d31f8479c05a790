/- Walks of armor.Letters and the documents' bit, letter, Letters (chapter 39). -/
import Derived.Test.YtgfaadggalnbgaaGreatDoorBase32
import Derived.Test.YtgfaadggalnbgaaGreatDoorG1
import Derived.Test.YtgfaadggalnbgaaGreatDoorG4
namespace Go.Proofs.YtgfaadggalnbgaaGreatDoor
set_option linter.unusedSimpArgs false
set_option linter.unusedVariables false
open Go Go.RowKit
set_option linter.unusedVariables false

section
variable {P : Program} {ops : Array Oper} {rest : List Oper} {o : Oper} {a : Act} {w : World} {Q : Exit → Act → World → Prop}
/-- A byte of a text, at a number that is told apart. -/
theorem wpList_index_text (ty : TypeId) (x y : Operand) (s : ByteArray) (E : Int) (k : Nat) (c : UInt8) (d : Option Tmp) (hu : P.underlying ty = some .string) (hE : E = (k : Int)) (hk : s.data.toList[k]? = some c)
    (hg : o.guard = none) (ho : o.op = .index ty x y) (hd : o.dst = d) (hx : a.eval x = .string s) (hy : a.eval y = .int .i64 E)
    (h : wpList P ops Q rest (a.put d (.int .u8 (c.toNat : Nat))) w) : wpList P ops Q (o :: rest) a w := by
  subst hd hE
  refine wpList_plain hg fun K hK => ?_
  unfold Oper.wp execOp
  obtain ⟨h1, h2⟩ := List.getElem?_eq_some_iff.1 hk
  have h3 : (k : Int) < (s.size : Int) := by have : s.data.toList.length = s.size := rfl; omega
  simp only [ho, hx, hy]
  rw [Sem.run_bind, run_index_string w ty s .i64 (k : Int) hu, dif_pos ⟨by omega, h3⟩]
  have e : (s[(k : Int).toNat]'(by omega)) = c := h2
  rw [e]
  exact hK _ _ h
end

theorem and_mask (x k : Nat) (hx : x < 9223372036854775808) (hk : k ≤ 32) : bits BinOp.and IntKind.i64 ((x : Nat) : Int) ((2 ^ k - 1 : Nat) : Int) = ((x % 2 ^ k : Nat) : Int) := by
  have h1 : 2 ^ k ≤ 2 ^ 32 := Nat.pow_le_pow_right (by omega) hk
  rw [i64_and_nat _ _ hx (by omega), Nat.and_two_pow_sub_one_eq_mod]
theorem arm_bits (x b : Nat) (hx : x < 65536) (hb : b < 256) : bits BinOp.or IntKind.i64 (bits BinOp.and IntKind.i64 ((x : Int) * 256) 65535) (b : Int) = ((x * 256 % 65536 + b : Nat) : Int) := by
  have e := and_mask (x * 256) 16 (by omega) (by omega)
  rw [show ((2 ^ 16 - 1 : Nat) : Int) = 65535 by rfl, show ((x * 256 : Nat) : Int) = (x : Int) * 256 by simp] at e
  rw [e, i64_or_nat _ _ (by omega) (by omega)]
  have := Nat.two_pow_add_eq_or_of_lt (i := 8) (b := b) (by omega) (x % 256)
  congr 1
  rw [show x * 256 % 2 ^ 16 = 2 ^ 8 * (x % 256) by omega, ← this]

theorem arm_idx (y q : Nat) (hy : y < 65536) : bits BinOp.and IntKind.i64 ((y : Int) / 2 ^ q) 31 = ((y / 2 ^ q % 32 : Nat) : Int) := by
  have h1 : y / 2 ^ q ≤ y := Nat.div_le_self _ _
  have e := and_mask (y / 2 ^ q) 5 (by omega) (by omega)
  rw [show ((2 ^ 5 - 1 : Nat) : Int) = 31 by rfl, show ((y / 2 ^ q : Nat) : Int) = (y : Int) / 2 ^ q by simp] at e
  exact e
theorem arm_idx2 (y q : Nat) (hy : y < 65536) (hq : q ≤ 5) : bits BinOp.and IntKind.i64 ((y : Int) * 2 ^ q) 31 = ((y * 2 ^ q % 32 : Nat) : Int) := by
  have h0 : 2 ^ q ≤ 2 ^ 5 := Nat.pow_le_pow_right (by omega) hq
  have h1 : y * 2 ^ q ≤ y * 32 := Nat.mul_le_mul_left _ h0
  have e := and_mask (y * 2 ^ q) 5 (by omega) (by omega)
  rw [show ((2 ^ 5 - 1 : Nat) : Int) = 31 by rfl, show ((y * 2 ^ q : Nat) : Int) = (y : Int) * 2 ^ q by simp] at e
  exact e
/-- The next letter of the low bits. -/
theorem dig_low (N b m q : Nat) (h : 5 * (m + 1) + q = b) (hq : q ≤ 11) : N % 65536 / 2 ^ q % 32 = dig N b 5 m := by
  rw [dig_in (by omega), show b - 5 * (m + 1) = q by omega]
  have h1 : (65536 : Nat) = 2 ^ q * 2 ^ (16 - q) := by rw [← Nat.pow_add, show q + (16 - q) = 16 by omega]
  have h2 : (2 : Nat) ^ (16 - q) = 32 * 2 ^ (11 - q) := by rw [show (32 : Nat) = 2 ^ 5 by rfl, ← Nat.pow_add]; congr 1; omega
  rw [h1, Nat.mod_mul_right_div_self, h2, Nat.mod_mul_right_mod]

theorem dig_high (N b m q : Nat) (h : 5 * (m + 1) = b + q) (hq : q ≤ 5) : N % 65536 * 2 ^ q % 32 = dig N b 5 m := by
  unfold dig
  rw [h, Nat.pow_add, Nat.mul_comm (2 ^ b), ← Nat.mul_assoc, Nat.mul_div_cancel _ (Nat.two_pow_pos _)]
  rw [Nat.mul_mod, Nat.mod_mod_of_dvd _ (by decide), ← Nat.mul_mod]

def alpha : ByteArray := ⟨#[97, 98, 99, 100, 101, 102, 103, 104, 105, 106, 107, 108, 109, 110, 111, 112, 113, 114, 115, 116, 117, 118, 119, 120, 121, 122, 50, 51, 52, 53, 54, 55]⟩
theorem alpha_at (m : Nat) (h : m < 32) : alpha.data.toList[m]? = some (letterB m) := by
  have : ∀ m, m < 32 → alpha.data.toList[m]? = some (letterB m) := by decide
  exact this m h

theorem alpha_get (k : Nat) (h : k < 32) (h' : k < (⟨#[97, 98, 99, 100, 101, 102, 103, 104, 105, 106, 107, 108, 109, 110, 111, 112, 113, 114, 115, 116, 117, 118, 119, 120, 121, 122, 50, 51, 52, 53, 54, 55]⟩ : ByteArray).size) :
    (⟨#[97, 98, 99, 100, 101, 102, 103, 104, 105, 106, 107, 108, 109, 110, 111, 112, 113, 114, 115, 116, 117, 118, 119, 120, 121, 122, 50, 51, 52, 53, 54, 55]⟩ : ByteArray)[k]'h' = letterB k := by
  have := alpha_at k h
  obtain ⟨h1, h2⟩ := List.getElem?_eq_some_iff.1 this
  exact h2

set_option maxRecDepth 100000 in
set_option maxHeartbeats 1000000 in
theorem aletters_walk (s : ByteArray) (w : World) (hs : s.size ≤ 16777216) :
    Calls Tryz.prog 13 #[.string s] w fun e w' => ∃ r, e = .returned (.string r) ∧ Txt r (letL s.data.toList) ∧ Below w.heap.size w w' := by
  have hs' : (s.size : Int) ≤ 16777216 := by omega
  have hl : s.data.toList.length = s.size := rfl
  have HL := Lib.hid hl; clear hl
  go_enter Tryz.func13, Tryz.ntmps13
  go_wp2_with ((with_reducible refine wpList_alloc_new 60 _ zeroBuilder (some 3) ?hgd ?ho ?hd ?_); (case hgd => rfl); (case ho => rfl); (case hd => rfl); (intro b w1 l1 B1 e1 z1))
  have hB1 := Bld.new B1
  have hbel := e1.mono l1
  clear B1 e1 z1
  go_loopw [4, 5, 9] (fun vb vn vi wr => ∃ i x n m : Nat, i ≤ s.size ∧ vi = .int .i64 i ∧ vb = .int .i64 x ∧ vn = .int .i64 n ∧ x = nOf (s.data.toList.take i) % 65536 ∧ 5 * m + n = 8 * i ∧ n < 5 ∧ Bld wr b (lettersTo (nOf (s.data.toList.take i)) (8 * i) m) ∧ Below w.heap.size w wr) (fun _ _ vi _ => s.size - (intOf vi).toNat)
  case atStart => exact ⟨0, 0, 0, 0, by omega, rfl, rfl, rfl, rfl, rfl, by omega, hB1, hbel⟩
  case round =>
    clear hB1 hbel
    obtain ⟨i, x, n, m, hi, rfl, rfl, rfl, hx, hm, hn, hB, hbel⟩ := hrel
    have HX := Lib.hid hx; clear hx
    have HM := Lib.hid hm; clear hm
    have HB := Lib.hid hB; clear hB
    have hx : x < 65536 := by rw [HX.out]; omega
    by_cases hlt : i < s.size
    · have hlt' : (i : Int) < s.size := by omega
      have hc := s[i].toNat_lt
      obtain ⟨wo, rfl⟩ : ∃ wo : World, wo = wr := ⟨_, rfl⟩
      have hN : nOf (s.data.toList.take (i + 1)) = nOf (s.data.toList.take i) * 2 ^ 8 + s[i].toNat := by
        rw [nOf_take _ _ (by rw [HL.out]; exact hlt), Nat.mul_comm]; rfl
      have HN := Lib.hid hN; clear hN
      obtain ⟨y, Hy⟩ : ∃ y, Hid (y = nOf (s.data.toList.take (i + 1)) % 65536) := ⟨_, rfl⟩
      have hy : y < 65536 := by rw [Hy.out]; omega
      have hE : bits BinOp.or IntKind.i64 (bits BinOp.and IntKind.i64 ((x : Int) * 256) 65535) (s[i].toNat : Int) = (y : Int) := by
        rw [arm_bits x s[i].toNat (by omega) hc, Hy.out, HN.out, HX.out]
        congr 1
        omega
      have HE := Lib.hid hE; clear hE
      have hB2 : Bld wo b (lettersTo (nOf (s.data.toList.take (i + 1))) (8 * (i + 1)) m) := by
        rw [HN.out, show 8 * (i + 1) = 8 * i + 8 by omega, lettersTo_more (by have := HM.out; omega) hc]; exact HB.out
      clear HB
      go_wp2_with fail
      rw [HE.out]
      go_loopw [5] (fun vn wr => ∃ n' m' : Nat, vn = .int .i64 n' ∧ 5 * m' + n' = 8 * (i + 1) ∧ n' ≤ 12 ∧ Bld wr b (lettersTo (nOf (s.data.toList.take (i + 1))) (8 * (i + 1)) m') ∧ Below w.heap.size w wr) (fun vn _ => (intOf vn).toNat)
      case atStart => exact ⟨n + 8, m, by simp, by have := HM.out; omega, by omega, hB2, hbel⟩
      case round =>
        clear hB2 hbel hn
        obtain ⟨n', m', rfl, hm', hn', hB, hbel⟩ := hrel
        have HM' := Lib.hid hm'; clear hm'
        have HB := Lib.hid hB; clear hB
        by_cases h5 : 5 ≤ n'
        · obtain ⟨q, rfl⟩ : ∃ q, n' = q + 5 := ⟨n' - 5, by omega⟩
          have hq : (q : Int) ≤ 7 := by omega
          have hd : y / 2 ^ q % 32 = dig (nOf (s.data.toList.take (i + 1))) (8 * (i + 1)) 5 m' := by rw [Hy.out]; exact dig_low _ _ _ _ (by have := HM'.out; omega) (by omega)
          have HD := Lib.hid hd; clear hd
          obtain ⟨k, Hk⟩ : ∃ k, Hid (k = y / 2 ^ q % 32) := ⟨_, rfl⟩
          have hk : k < 32 := by rw [Hk.out]; exact Nat.mod_lt _ (by decide)
          have hk' : (k : Int) < 32 := by omega
          have hE : bits BinOp.and IntKind.i64 ((y : Int) / 2 ^ q) 31 = (k : Int) := by rw [Hk.out]; exact arm_idx y q hy
          go_wp2_with fail
          rw [alpha_get k hk]
          have hbl := (letterB k).toNat_lt
          refine (bld_writeByte b _ _ _ HB.out (by omega) (by omega) (by rw [lettersTo_length]; have := HM'.out; omega)).mono ?_
          rintro e w3 ⟨rfl, hB3, hb3⟩
          have HB3 := Lib.hid hB3; clear hB3 hbl hE
          go_wp2_with fail
          go_roundw
          case rel =>
            refine ⟨q, m' + 1, rfl, by have := HM'.out; omega, by omega, ?_, hbel.trans (hb3.mono l1)⟩
            have := HB3.out
            rw [show UInt8.ofNat (((letterB k).toNat : Nat) : Int).toNat = letterB k by simp, Hk.out, HD.out] at this
            rw [lettersTo_succ]
            exact this
          case measure => simp [intOf]; omega
        · have h5' : (n' : Int) < 5 := by omega
          go_wp2_with fail
          go_roundw
          case rel => exact ⟨i + 1, y, n', m', by omega, by go_num, rfl, rfl, Hy.out, HM'.out, by omega, HB.out, hbel⟩
          case measure => simp [intOf]; omega
    · obtain rfl : i = s.size := by omega
      by_cases hz : 0 < n
      · have hz' : (0 : Int) < n := by omega
        obtain ⟨q, hq⟩ : ∃ q, q = 5 - n := ⟨5 - n, rfl⟩
        have hq5 : q ≤ 5 := by omega
        have e5 : (5 : Int) - (n : Int) = (q : Int) := by omega
        have HQ := Lib.hid hq; clear hq
        obtain ⟨k, Hk⟩ : ∃ k, Hid (k = x * 2 ^ q % 32) := ⟨_, rfl⟩
        have hk : k < 32 := by rw [Hk.out]; exact Nat.mod_lt _ (by decide)
        have hk' : (k : Int) < 32 := by omega
        have hE : bits BinOp.and IntKind.i64 (wrap64 ((x : Int) * 2 ^ q)) 31 = (k : Int) := by
          have h0 : 2 ^ q ≤ 2 ^ 5 := Nat.pow_le_pow_right (by omega) hq5
          have h1 : x * 2 ^ q ≤ x * 32 := Nat.mul_le_mul_left _ h0
          have h2 : (x : Int) * 2 ^ q = ((x * 2 ^ q : Nat) : Int) := by simp
          rw [IntWalk.wrap64_in _ (by rw [h2]; omega), Hk.out]; exact arm_idx2 x q hx hq5
        go_wp2_with fail
        rw [alpha_get k hk]
        have hbl := (letterB k).toNat_lt
        refine (bld_writeByte b _ _ _ HB.out (by omega) (by omega) (by rw [lettersTo_length]; have := HM.out; omega)).mono ?_
        rintro e w3 ⟨rfl, hB3, hb3⟩
        have HB3 := Lib.hid hB3; clear hB3 hbl hE
        go_wp2_with fail
        refine (bld_string b _ _ HB3.out).mono ?_
        rintro e w5 ⟨t, rfl, tt, hb5⟩
        go_wp2_with fail
        go_ret
        refine ⟨t, rfl, tt.cast ?_, (hbel.trans (hb3.mono l1)).trans (hb5.mono l1)⟩
        have h1 := HM.out
        have h2 := HQ.out
        rw [List.take_of_length_le (by rw [HL.out]; omega)]
        unfold letL
        rw [HL.out, show (8 * s.size + 4) / 5 = m + 1 by omega, lettersTo_succ, show UInt8.ofNat (((letterB k).toNat : Nat) : Int).toNat = letterB k by simp]
        congr 2
        rw [Hk.out, HX.out, List.take_of_length_le (by rw [HL.out]; omega)]
        congr 1
        exact dig_high _ _ _ _ (by omega) hq5
      · obtain rfl : n = 0 := by omega
        go_wp2_with fail
        refine (bld_string b _ _ HB.out).mono ?_
        rintro e w5 ⟨q, rfl, tq, hb5⟩
        go_wp2_with fail
        go_ret
        refine ⟨q, rfl, tq.cast ?_, hbel.trans (hb5.mono l1)⟩
        have h1 := HM.out
        rw [List.take_of_length_le (by rw [HL.out]; omega)]
        unfold letL
        rw [HL.out, show (8 * s.size + 4) / 5 = m by omega]
end Go.Proofs.YtgfaadggalnbgaaGreatDoor
