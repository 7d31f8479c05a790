/- Walks of the documents' five and Bytes (chapter 39). -/
import Derived.Test.YtgfaadggalnbgaaGreatDoorWArmor2
import Derived.Deep.RegionWith
import Derived.Deep.DeepCutAuto
namespace Go.Proofs.YtgfaadggalnbgaaGreatDoor
set_option linter.unusedSimpArgs false
set_option linter.unusedVariables false
open Go Go.RowKit
set_option linter.unusedVariables false

/-- A letter's number; -1: it is none. -/
def fiveI (c : UInt8) : Int := match fiveB c with | some n => n | none => -1
theorem fiveB_letter (n : Nat) (c : UInt8) (h : n < 32) : letterB n = c ↔ fiveB c = some n := by
  constructor
  · rintro rfl; exact letterB_five n h
  · intro e
    unfold fiveB at e
    split at e
    · simp at e
      subst e
      unfold letterB
      rw [if_pos (by omega)]
      apply UInt8.toNat_inj.1
      simp
      omega
    · split at e
      · simp at e
        subst e
        unfold letterB
        rw [if_neg (by omega)]
        apply UInt8.toNat_inj.1
        simp
        omega
      · simp at e
theorem letter_cmp {r : ByteArray} {a : UInt8} (t : Txt r [a]) (c : UInt8) : (r.toList == [c]) = decide (a = c) := by
  rw [Lib.toList_data, show r.data.toList = [a] from t]
  by_cases h : a = c
  · subst h; simp
  · simp [h]

set_option maxRecDepth 100000 in
set_option maxHeartbeats 1000000 in
theorem five_walk (c : UInt8) (w : World) :
    Calls Tryz.prog 67 #[.int .u8 (c.toNat : Nat)] w fun e w' => e = .returned (.int .i64 (fiveI c)) ∧ Below w.heap.size w w' := by
  have hc8 := c.toNat_lt
  have hconv := conv_one c ((c.toNat : Nat) : Int) rfl
  go_enter Tryz.func67, Tryz.ntmps67
  go_wp2_with fail
  go_loopw [3] (fun vk wr => ∃ k : Nat, k ≤ 32 ∧ vk = .int .i64 k ∧ (∀ j, j < k → letterB j ≠ c) ∧ Below w.heap.size w wr) (fun vk _ => 32 - (intOf vk).toNat)
  case atStart => exact ⟨0, by omega, rfl, fun j h => by omega, Below.refl _ _⟩
  case round =>
    obtain ⟨k, hk, rfl, hno, hbel⟩ := hrel
    have HNO := Lib.hid hno; clear hno
    by_cases hlt : k < 32
    · have hlt' : (k : Int) < 32 := by omega
      go_wp2_with fail
      go_cut [13] from 8 to 13 (fun v wc => v = .bool (decide (letterB k = c)) ∧ Below wr.heap.size wr wc)
      case first =>
        go_region_with ((go_at_call 39; refine (rletter_walk k _ hlt).mono ?_; rintro e w2 ⟨r, rfl, tr, hb2⟩; have hq := fun (h : wr.heap.size < _) => hb2.cell (p := ⟨wr.heap.size, 0, none⟩) h))
        all_goals go_wp2_with fail
        all_goals go_meet
        all_goals refine ⟨congrArg Value.bool (letter_cmp tr c), ?_⟩
        all_goals first
          | exact ((Below.refl _ _).drew.trans (hb2.mono (by simp))).alloc (by have := hb2.size; simp at this; omega) _
          | exact ((Below.refl wr.heap.size wr).drew.alloc (by simp) _).trans (hb2.mono (by simp))
      case rest =>
        clear hconv
        obtain ⟨rfl, hb2⟩ := hcut
        by_cases he : letterB k = c
        · rw [decide_eq_true he]
          have HE := Lib.hid he; clear he
          go_wp2_with fail
          go_ret
          refine ⟨ret_int ?_, hbel.trans (hb2.mono hbel.size)⟩
          unfold fiveI
          rw [(fiveB_letter k c hlt).1 HE.out]
        · rw [decide_eq_false he]
          have HE := Lib.hid he; clear he
          go_wp2_with fail
          go_roundw
          case rel =>
            refine ⟨k + 1, by omega, by go_num, fun j hj => ?_, hbel.trans (hb2.mono hbel.size)⟩
            by_cases e : j = k
            · rw [e]; exact HE.out
            · exact HNO.out j (by omega)
          case measure => simp [intOf]; omega
    · obtain rfl : k = 32 := by omega
      go_wp2_with fail
      go_ret
      refine ⟨ret_int ?_, hbel⟩
      unfold fiveI
      cases h : fiveB c with
      | none => rfl
      | some n => exact absurd ((fiveB_letter n c (fiveB_lt h)).2 h) (HNO.out n (fiveB_lt h))

/-- How the documents' Bytes ends. -/
def BytesEnd (t : List UInt8) (e : Ending) : Prop :=
  (∃ o, decL t = some o ∧ ∃ r, e = .returned (.tuple #[.string r, .bool true]) ∧ Txt r o) ∨ (decL t = none ∧ e = .returned (.tuple #[.string ⟨#[]⟩, .bool false]))

/-- The stream of k letters and c bits of the next one, x. -/
def strm (S x c : Nat) : Nat := S * 2 ^ c + x / 2 ^ (5 - c)
theorem strm_zero (S x : Nat) (h : x < 32) : strm S x 0 = S := by unfold strm; rw [show x / 2 ^ (5 - 0) = 0 by simpa using Nat.div_eq_of_lt h]; simp
theorem strm_five (S x : Nat) : strm S x 5 = 32 * S + x := by unfold strm; simp; omega
theorem strm_succ (S x c : Nat) (hc : c < 5) : strm S x (c + 1) = 2 * strm S x c + x / 2 ^ (4 - c) % 2 := by
  unfold strm
  rw [show 5 - c = (4 - c) + 1 by omega, show 5 - (c + 1) = 4 - c by omega, Nat.pow_succ, Nat.pow_succ, ← Nat.div_div_eq_div_mul, ← Nat.mul_assoc]
  omega

theorem bytesTo_bit {S b m r : Nat} (h : 8 * m ≤ b) (hr : r < 2) : bytesTo (2 * S + r) (b + 1) m = bytesTo S b m := by
  have := bytesTo_more (S := S) (b := b) (m := m) (c := 1) (r := r) h (by simpa using hr)
  rwa [show S * 2 ^ 1 + r = 2 * S + r by omega] at this

set_option maxRecDepth 100000 in
set_option maxHeartbeats 2000000 in
theorem rbytes_walk (t : ByteArray) (w : World) (ht : t.size ≤ 16777216) :
    Calls Tryz.prog 49 #[.string t] w fun e w' => BytesEnd t.data.toList e ∧ Below w.heap.size w w' := by
  have hl : t.data.toList.length = t.size := rfl
  have HL := Lib.hid hl; clear hl
  go_enter Tryz.func49, Tryz.ntmps49
  go_wp2_with fail
  go_loopw [4, 5, 6, 7] (fun vo vn vb vi wr => ∃ (i n b m : Nat) (o : ByteArray) (v : List Nat), i ≤ t.size ∧ vi = .int .i64 i ∧ vo = .string o ∧ vn = .int .i64 n ∧ vb = .int .i64 b ∧
    (t.data.toList.take i).mapM fiveB = some v ∧ v.length = i ∧ 8 * m + b = 5 * i ∧ b < 8 ∧ n = t32 v % 2 ^ b ∧ Txt o (bytesTo (t32 v) (5 * i) m) ∧ Below w.heap.size w wr) (fun _ _ _ vi _ => t.size - (intOf vi).toNat)
  case atStart => exact ⟨0, 0, 0, 0, ⟨#[]⟩, [], by omega, rfl, rfl, rfl, rfl, rfl, rfl, rfl, by omega, rfl, Txt.mk [], Below.refl _ _⟩
  case round =>
    obtain ⟨i, n, b, m, o, v, hi, rfl, rfl, rfl, rfl, hv, hvl, hm, hb, hn, tou, hbel⟩ := hrel
    have HV := Lib.hid hv; clear hv
    have HVL := Lib.hid hvl; clear hvl
    have HM := Lib.hid hm; clear hm
    have HN := Lib.hid hn; clear hn
    have so : o.size ≤ 16777216 := by rw [tou.size, bytesTo_length]; have := HM.out; omega
    by_cases hlt : i < t.size
    · have hlt' : (i : Int) < t.size := by omega
      obtain ⟨c, hc⟩ : ∃ c, c = t[i] := ⟨_, rfl⟩
      have HC := Lib.hid hc; clear hc
      have htk : t.data.toList.take (i + 1) = t.data.toList.take i ++ [c] := by
        rw [List.take_succ_eq_append_getElem (by rw [HL.out]; exact hlt), HC.out]; rfl
      have HTK := Lib.hid htk; clear htk
      go_wp2_with fail
      rw [← HC.out]
      refine (five_walk c _).mono ?_
      rintro e w3 ⟨rfl, hb3⟩
      cases h5 : fiveB c with
      | none =>
        have e5 : fiveI c = -1 := by unfold fiveI; rw [h5]
        rw [e5]
        have H5 := Lib.hid h5; clear h5 e5
        go_wp2_with fail
        go_ret2
        refine ⟨.inr ⟨?_, rfl⟩, hbel.trans (hb3.mono hbel.size)⟩
        unfold decL
        have : t.data.toList.mapM fiveB = none := by
          have e : t.data.toList = t.data.toList.take i ++ c :: t.data.toList.drop (i + 1) := by
            conv => lhs; rw [← List.take_append_drop (i + 1) t.data.toList, HTK.out]
            simp
          rw [e, List.mapM_append, HV.out, List.mapM_cons, H5.out]
          rfl
        rw [this]
      | some x =>
        have e5 : fiveI c = (x : Int) := by unfold fiveI; rw [h5]
        rw [e5]
        have hx := fiveB_lt h5
        have H5 := Lib.hid h5; clear h5 e5
        obtain ⟨wo, rfl⟩ : ∃ wo : World, wo = w3 := ⟨_, rfl⟩
        go_wp2_with fail
        go_loopw [4, 5, 6, 9] (fun vo vn vb vk wr => ∃ (c n b m k : Nat) (o : ByteArray), c ≤ 5 ∧ k = 16 / 2 ^ c ∧ vk = .int .i64 k ∧ vo = .string o ∧ vn = .int .i64 n ∧ vb = .int .i64 b ∧
          8 * m + b = 5 * i + c ∧ b < 8 ∧ n = strm (t32 v) x c % 2 ^ b ∧ Txt o (bytesTo (strm (t32 v) x c) (5 * i + c) m) ∧ Below w.heap.size w wr) (fun _ _ _ vk _ => (intOf vk).toNat)
        case atStart => exact ⟨0, n, b, m, 16, o, by omega, rfl, rfl, rfl, rfl, rfl, HM.out, hb, by rw [strm_zero _ _ hx]; exact HN.out, by rw [strm_zero _ _ hx]; exact tou, hbel.trans (hb3.mono hbel.size)⟩
        case round =>
          clear hbel hb3 tou HM HN so hb
          obtain ⟨d, n', b', m', k, o', hd, hk, rfl, rfl, rfl, rfl, hm, hb, hn, tou, hbel⟩ := hrel
          have HK := Lib.hid hk; clear hk
          have HM := Lib.hid hm; clear hm
          have HN := Lib.hid hn; clear hn
          by_cases hd5 : d < 5
          · have hk1 : (1 : Int) ≤ k := by
              have : ∀ d, d < 5 → 1 ≤ 16 / 2 ^ d := by decide
              have := this d hd5; rw [← HK.out] at this; omega
            have hk16 : (k : Int) ≤ 16 := by
              have : ∀ d, d < 5 → 16 / 2 ^ d ≤ 16 := by decide
              have := this d hd5; rw [← HK.out] at this; omega
            have hkp : k = 2 ^ (4 - d) := by
              have : ∀ d, d < 5 → 16 / 2 ^ d = 2 ^ (4 - d) := by decide
              rw [HK.out, this d hd5]
            have HKP := Lib.hid hkp; clear hkp
            have hk2 : k / 2 = 16 / 2 ^ (d + 1) := by rw [HK.out, Nat.div_div_eq_div_mul, ← Nat.pow_succ]
            have HK2 := Lib.hid hk2; clear hk2
            have hn128 : n' < 128 := by
              rw [HN.out]
              have h1 := Nat.mod_lt (strm (t32 v) x d) (Nat.two_pow_pos b')
              have h2 : 2 ^ b' ≤ 2 ^ 7 := Nat.pow_le_pow_right (by omega) (by omega)
              omega
            obtain ⟨z, Hz⟩ : ∃ z, Hid (z = x / k % 2) := ⟨_, rfl⟩
            have hz : z < 2 := by rw [Hz.out]; omega
            obtain ⟨N2, HN2⟩ : ∃ N2, Hid (N2 = 2 * n' + z) := ⟨_, rfl⟩
            have hN2 : N2 ≤ 255 := by rw [HN2.out]; omega
            have hS : strm (t32 v) x (d + 1) = 2 * strm (t32 v) x d + z := by rw [strm_succ _ _ _ hd5, Hz.out, HKP.out]
            have HS := Lib.hid hS; clear hS
            obtain ⟨qq, Hqq⟩ : ∃ q, Hid (q = x / k) := ⟨_, rfl⟩
            have hqq : qq ≤ 31 := by rw [Hqq.out]; have := Nat.div_le_self x k; omega
            have hQ : (x : Int) / (k : Int) = (qq : Int) := by rw [Hqq.out]; simp
            have hE : 2 * (n' : Int) + (qq : Int) % 2 = (N2 : Int) := by
              rw [HN2.out, Hz.out, Hqq.out]; simp
            have hNm : N2 = strm (t32 v) x (d + 1) % 2 ^ (b' + 1) := by
              rw [HS.out, HN2.out, HN.out, Nat.pow_succ, Nat.mul_comm (2 ^ b') 2]
              have := Nat.mod_mul_right_div_self (2 * strm (t32 v) x d + z) 2 (2 ^ b')
              rw [show (2 * strm (t32 v) x d + z) / 2 = strm (t32 v) x d by omega] at this
              have h2 := Nat.mod_mod_of_dvd (2 * strm (t32 v) x d + z) (Nat.dvd_mul_right 2 (2 ^ b'))
              omega
            have HNM := Lib.hid hNm; clear hNm
            have so : o'.size ≤ 16777216 := by rw [tou.size, bytesTo_length]; have := HM.out; omega
            by_cases h8 : b' = 7
            · subst h8
              have hconv := conv_one (UInt8.ofNat N2) (N2 : Int) (by simp; omega)
              go_wp2_with fail
              clear hconv hE hQ
              go_roundw
              case rel =>
                refine ⟨d + 1, 0, 0, m' + 1, k / 2, o' ++ ⟨#[UInt8.ofNat N2]⟩, by omega, HK2.out, by simp, rfl, rfl, rfl, by have := HM.out; omega, by omega, by simp [Nat.mod_one], ?_, hbel.alloc hbel.size _⟩
                refine (tou.append (Txt.mk [UInt8.ofNat N2])).cast ?_
                rw [bytesTo_succ, dig_in (by have := HM.out; omega), show 5 * i + (d + 1) - 8 * (m' + 1) = 0 by have := HM.out; omega]
                rw [show strm (t32 v) x (d + 1) / 2 ^ 0 % 2 ^ 8 = N2 by rw [HNM.out]; simp]
                congr 1
                rw [HS.out, show 5 * i + (d + 1) = 5 * i + d + 1 by omega, bytesTo_bit (by have := HM.out; omega) hz]
              case measure => simp [intOf]; omega
            · have h8' : ¬ (b' : Int) + 1 = 8 := by omega
              go_wp2_with fail
              clear hE h8' hQ
              go_roundw
              case rel =>
                refine ⟨d + 1, N2, b' + 1, m', k / 2, o', by omega, HK2.out, by simp, rfl, rfl, by go_num, by have := HM.out; omega, by omega, HNM.out, ?_, hbel⟩
                rw [HS.out, show 5 * i + (d + 1) = 5 * i + d + 1 by omega, bytesTo_bit (by have := HM.out; omega) hz]
                exact tou
              case measure => simp [intOf]; omega
          · obtain rfl : d = 5 := by omega
            obtain rfl : k = 0 := HK.out
            go_wp2_with fail
            go_roundw
            case rel =>
              refine ⟨i + 1, n', b', m', o', v ++ [x], by omega, by go_num, rfl, rfl, rfl, ?_, by have := HVL.out; simp; omega, by have := HM.out; omega, hb, ?_, ?_, hbel⟩
              · rw [HTK.out, List.mapM_append, HV.out]
                simp [H5.out]
              · rw [t32_snoc, ← strm_five]; exact HN.out
              · rw [t32_snoc, ← strm_five, show 5 * (i + 1) = 5 * i + 5 by omega]; exact tou
            case measure => simp [intOf]; omega
    · obtain rfl : i = t.size := by omega
      have hraw : o.data.toList = rawL v := by
        rw [show o.data.toList = _ from tou]
        unfold rawL
        rw [HVL.out, show 5 * t.size / 8 = m by have := HM.out; omega]
      have HR := Lib.hid hraw; clear hraw
      have hall : t.data.toList.mapM fiveB = some v := by have := HV.out; rwa [List.take_of_length_le (by rw [HL.out]; omega)] at this
      have HA := Lib.hid hall; clear hall
      go_wp2_with fail
      refine (rletters_walk o _ (by omega)).mono ?_
      rintro e w3 ⟨r, rfl, tr, hb3⟩
      by_cases he : letL (rawL v) = t.data.toList
      · have h1 : (r.toList == t.toList) = true := tr.same (Txt.self t) (by rw [HR.out]; exact he)
        have HE := Lib.hid he; clear he
        go_wp2_with fail
        go_ret2
        refine ⟨.inl ⟨rawL v, ?_, o, rfl, HR.out⟩, hbel.trans (hb3.mono hbel.size)⟩
        unfold decL
        rw [HA.out]
        simp [HE.out]
      · have h1 : (r.toList == t.toList) = false := tr.other (Txt.self t) (by rw [HR.out]; exact he)
        have HE := Lib.hid he; clear he
        go_wp2_with fail
        go_ret2
        refine ⟨.inr ⟨?_, rfl⟩, hbel.trans (hb3.mono hbel.size)⟩
        unfold decL
        rw [HA.out]
        simp [HE.out]
end Go.Proofs.YtgfaadggalnbgaaGreatDoor
