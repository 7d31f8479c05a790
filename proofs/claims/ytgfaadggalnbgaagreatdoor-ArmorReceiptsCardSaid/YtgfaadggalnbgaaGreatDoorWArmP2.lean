/- Walk of strings.ReplaceAll at the byte 10 and nothing. -/
import Derived.Test.YtgfaadggalnbgaaGreatDoorWArmP1
namespace Go.Proofs.YtgfaadggalnbgaaGreatDoor
set_option linter.unusedSimpArgs false
set_option linter.unusedVariables false
open Go Go.RowKit
set_option linter.unusedVariables false

/-- What Replace has gone through, and what is still to come. -/
structure ReplAt (l : List UInt8) (m k p : Nat) : Prop where
  le : p ≤ l.length
  cnt : (l.drop p).count 10 = m - k
theorem ReplAt.next {l : List UInt8} {m k p : Nat} (h : ReplAt l m k p) (hk : k < m) : ∃ (j : Nat), Lib.indexByte (l.drop p) 10 = (j : Int) ∧ p + j + 1 ≤ l.length ∧ ReplAt l m (k + 1) (p + j + 1) ∧ stripC 10 (l.take (p + j + 1)) = stripC 10 (l.take p) ++ (l.take (p + j)).drop p := by
  cases hs : splitC 10 (l.drop p) with
  | none =>
    have := (splitC_none hs).1
    have h0 := List.count_eq_zero.2 this
    have := h.cnt
    omega
  | some q =>
    obtain ⟨x, y⟩ := q
    obtain ⟨h1, h2, h3⟩ := splitC_some hs
    have hp := h.le
    have hlen : x.length + 1 + y.length = l.length - p := by
      have := congrArg List.length h1
      rw [List.length_drop, List.length_append, List.length_cons] at this
      omega
    have hl : l = l.take p ++ (x ++ 10 :: y) := by rw [← h1, List.take_append_drop]
    have htp : (l.take p).length = p := by rw [List.length_take]; omega
    have e1 : l.take (p + x.length) = l.take p ++ x := by
      conv => lhs; rw [hl]
      rw [List.take_append, htp, List.take_of_length_le (by omega), show p + x.length - p = x.length by omega]
      simp
    have e2 : l.take (p + x.length + 1) = l.take p ++ x ++ [10] := by
      conv => lhs; rw [hl]
      rw [List.take_append, htp, List.take_of_length_le (by omega), show p + x.length + 1 - p = x.length + 1 by omega, List.append_assoc]
      congr 1
      rw [List.take_append, List.take_of_length_le (by omega), show x.length + 1 - x.length = 1 by omega]
      rfl
    have e3 : l.drop (p + x.length + 1) = y := by
      rw [show p + x.length + 1 = p + (x.length + 1) by omega, ← List.drop_drop, h1, List.drop_append, List.drop_of_length_le (by omega), show x.length + 1 - x.length = 1 by omega]
      rfl
    refine ⟨x.length, h3, by omega, ⟨by omega, ?_⟩, ?_⟩
    · rw [e3]
      have hc := h.cnt
      rw [h1, List.count_append, List.count_cons, List.count_eq_zero.2 h2] at hc
      simp at hc
      omega
    · rw [e2, e1, stripC_snoc, if_pos rfl, stripC_append, stripC_id h2]
      congr 1
      rw [List.drop_append, htp, List.drop_of_length_le (by omega), Nat.sub_self]
      rfl
theorem stripC_length_le (c : UInt8) (l : List UInt8) : (stripC c l).length ≤ l.length := List.length_filter_le _ _

set_option maxRecDepth 100000 in
set_option maxHeartbeats 4000000 in
theorem repl_walk (s : ByteArray) (w : World) (hs : s.size ≤ 1073741824) :
    Calls Tryz.prog 64 #[.string s, .string ⟨#[10]⟩, .string ⟨#[]⟩, .int .i64 (-1)] w fun e w' => ∃ r, e = .returned (.string r) ∧ Txt r (stripC 10 s.data.toList) ∧ Below w.heap.size w w' := by
  have hl : s.data.toList.length = s.size := rfl
  obtain ⟨m, hm⟩ : ∃ m, Lib.countByte s.data.toList 10 = m := ⟨_, rfl⟩
  have hml : m ≤ s.size := by rw [← hm, ← hl]; exact List.count_le_length
  have HM := Lib.hid hm; clear hm
  have HL := Lib.hid hl; clear hl
  by_cases m0 : m = 0
  · have hno : stripC 10 s.data.toList = s.data.toList := stripC_id (List.count_eq_zero.1 (by rw [← m0]; exact HM.out))
    have HNO := Lib.hid hno
    subst m0
    clear hno
    go_enter Tryz.func64, Tryz.ntmps64
    go_wp2_with fail
    refine (Tryz.strings_Count_one s 10 _).mono ?_
    rintro e w1 ⟨rfl, rfl⟩
    rw [HM.out]
    go_wp2_with fail
    go_ret
    exact ⟨_, rfl, by rw [HNO.out]; exact Txt.self s, Below.refl _ _⟩
  have m1 : ¬ (m : Int) = 0 := by omega
  have hgrow : (s.size : Int) + (m : Int) * (-1) = ((s.size - m : Nat) : Int) := by omega
  have HG := Lib.hid hgrow
  have hm0 : 0 < m := by omega
  clear hgrow m0
  go_enter Tryz.func64, Tryz.ntmps64
  go_wp2_with fail
  refine (Tryz.strings_Count_one s 10 _).mono ?_
  rintro e w1 ⟨rfl, hw⟩
  obtain rfl := hw.symm
  rw [HM.out]
  go_wp2_with ((with_reducible refine wpList_alloc_new 60 _ zeroBuilder (some 10) ?hgd ?ho ?hd ?_); (case hgd => rfl); (case ho => rfl); (case hd => rfl); (intro b w1 l1 B1 e1 z1))
  rw [show (s.size : Int) + -(m : Int) = ((s.size - m : Nat) : Int) by have := HG.out; omega]
  refine (Tryz.Builder_Grow_fresh b b (s.size - m) w1 (Nat.le_refl _) (by have h := B1; unfold Blk at h; exact h) (Nat.le_of_lt z1) (by omega)).mono ?_
  rintro e w2 ⟨rfl, hb2, hbel2⟩
  have hB2 : Bld w2 b [] := .inr hb2
  have hbel := (e1.mono l1).trans (hbel2.mono l1)
  have at0 : ReplAt s.data.toList m 0 0 := ⟨Nat.zero_le _, HM.out⟩
  clear B1 e1 hb2 hbel2
  have hs0 : ¬ ((0 : Int) < 0) := by omega
  go_wp2_with fail
  go_loopw [11, 53] (fun vp vk wr => ∃ p k : Nat, k ≤ m ∧ vp = .int .i64 p ∧ vk = .int .i64 k ∧ ReplAt s.data.toList m k p ∧ Bld wr b (stripC 10 (s.data.toList.take p)) ∧ Below w.heap.size w wr) (fun _ vk _ => m - (intOf vk).toNat)
  case atStart => exact ⟨0, 0, by omega, rfl, rfl, at0, hB2, hbel⟩
  case round =>
    clear hB2 hbel at0
    obtain ⟨p, k, hk, rfl, rfl, hat, hB, hbel⟩ := hrel
    have HB := Lib.hid hB; clear hB
    have HA := Lib.hid hat
    have hp : p ≤ s.size := by have := hat.le; rw [HL.out] at this; exact this
    have hp' : (p : Int) ≤ s.size := by omega
    by_cases hlt : k < m
    · obtain ⟨j, hj, hpj, hnext, hst⟩ := hat.next hlt
      rw [HL.out] at hpj
      have tp : Txt (s.extract p s.size) (s.data.toList.drop p) := ((Txt.self s).extract p s.size).cast (by rw [List.take_of_length_le (by rw [HL.out]; omega)])
      have HI : Hid (Lib.indexByte (s.extract p s.size).data.toList 10 = (j : Int)) := by
        refine Lib.hid ?_
        rw [show (s.extract p s.size).data.toList = _ from tp]; exact hj
      have tq : Txt (s.extract p (p + j)) ((s.data.toList.take (p + j)).drop p) := (Txt.self s).extract p (p + j)
      have TQ := Lib.hid tq
      have HN := Lib.hid hnext
      have HS := Lib.hid hst
      have hlt' : (k : Int) < m := by omega
      have d1 : IntKind.i64.wrap ((p : Int) + j) = (p : Int) + j := by rw [IntWalk.i64_in _ ⟨by omega, by omega⟩]
      have d2 : (p : Int) ≤ (p : Int) + j := by omega
      have d3 : (p : Int) + j ≤ s.size := by omega
      have d4 : ((p : Int) + j).toNat = p + j := by omega
      have d5 : (0 : Int) ≤ (p : Int) + j := by omega
      clear hat hj hnext hst tp tq
      obtain ⟨wo, rfl⟩ : ∃ wo : World, wo = wr := ⟨_, rfl⟩
      go_wp2_with fail
      refine (Tryz.strings_Index_one _ 10 _).mono ?_
      rintro e w3 ⟨rfl, rfl⟩
      rw [HI.out]
      go_wp2_with fail
      have hlp : (stripC 10 (s.data.toList.take p)).length ≤ p := by
        refine Nat.le_trans (stripC_length_le _ _) ?_
        rw [List.length_take]; omega
      have hsz : (s.extract p (p + j)).size = j := by
        rw [TQ.out.size, List.length_drop, List.length_take, HL.out]; omega
      have HSZ := Lib.hid hsz
      clear hsz
      refine (bld_writeString b _ _ _ HB.out (by have := HSZ.out; omega)).mono ?_
      rintro e w4 ⟨rfl, hB4, hb4⟩
      have hB4' : Bld w4 b (stripC 10 (s.data.toList.take (p + j + 1))) := by
        rw [HS.out, ← show (s.extract p (p + j)).data.toList = _ from TQ.out]; exact hB4
      have HB4 := Lib.hid hB4'
      clear hB4 hB4' hlp
      go_wp2_with fail
      refine (bld_writeString b _ ⟨#[]⟩ _ HB4.out (by
        have h1 := stripC_length_le 10 (s.data.toList.take (p + j + 1))
        have h2 := List.length_take (i := p + j + 1) (l := s.data.toList)
        have h3 : (⟨#[]⟩ : ByteArray).size = 0 := rfl
        omega)).mono ?_
      rintro e w5 ⟨rfl, hB5, hb5⟩
      have hB5' : Bld w5 b (stripC 10 (s.data.toList.take (p + j + 1))) := by
        have := hB5
        rwa [show (⟨#[]⟩ : ByteArray).data.toList = [] from rfl, List.append_nil] at this
      have HB5 := Lib.hid hB5'
      clear hB5 hB5'
      have d6 : IntKind.i64.wrap ((p : Int) + j + 1) = ((p + j + 1 : Nat) : Int) := by rw [IntWalk.i64_in _ ⟨by omega, by omega⟩]; omega
      have d7 : IntKind.i64.wrap ((k : Int) + 1) = ((k + 1 : Nat) : Int) := by rw [IntWalk.i64_in _ ⟨by omega, by omega⟩]; omega
      go_wp2_with fail
      go_roundw
      case rel => exact ⟨p + j + 1, k + 1, by omega, by go_num, by go_num, HN.out, HB5.out, hbel.trans ((hb4.mono l1).trans (hb5.mono l1))⟩
      case measure => simp [intOf]; omega
    · obtain rfl : k = m := by omega
      have h0 : (10 : UInt8) ∉ s.data.toList.drop p := List.count_eq_zero.1 (by have := hat.cnt; omega)
      have tp : Txt (s.extract p s.size) (s.data.toList.drop p) := ((Txt.self s).extract p s.size).cast (by rw [List.take_of_length_le (by rw [HL.out]; omega)])
      have TP := Lib.hid tp
      have hst : stripC 10 s.data.toList = stripC 10 (s.data.toList.take p) ++ s.data.toList.drop p := by
        conv => lhs; rw [← List.take_append_drop p s.data.toList]
        rw [stripC_append, stripC_id h0]
      have HS := Lib.hid hst
      clear hat h0 tp hst
      obtain ⟨wo, rfl⟩ : ∃ wo : World, wo = wr := ⟨_, rfl⟩
      go_wp2_with fail
      have hlp : (stripC 10 (s.data.toList.take p)).length ≤ p := by
        refine Nat.le_trans (stripC_length_le _ _) ?_
        rw [List.length_take]; omega
      have hsz : (s.extract p s.size).size = s.size - p := by
        rw [TP.out.size, List.length_drop, HL.out]
      refine (bld_writeString b _ _ _ HB.out (by omega)).mono ?_
      rintro e w4 ⟨rfl, hB4, hb4⟩
      have hB4' : Bld w4 b (stripC 10 s.data.toList) := by
        rw [HS.out, ← show (s.extract p s.size).data.toList = _ from TP.out]; exact hB4
      have HB4 := Lib.hid hB4'
      clear hB4 hB4' hlp hsz
      go_wp2_with fail
      refine (bld_string b _ _ HB4.out).mono ?_
      rintro e w5 ⟨r, rfl, hr, hb5⟩
      have HR := Lib.hid hr; clear hr
      go_wp2_with fail
      go_ret
      exact ⟨r, rfl, HR.out, hbel.trans ((hb4.mono l1).trans (hb5.mono l1))⟩

theorem replall_walk (s : ByteArray) (w : World) (hs : s.size ≤ 1073741824) :
    Calls Tryz.prog 46 #[.string s, .string ⟨#[10]⟩, .string ⟨#[]⟩] w fun e w' => ∃ r, e = .returned (.string r) ∧ Txt r (stripC 10 s.data.toList) ∧ Below w.heap.size w w' := by
  go_enter Tryz.func46, Tryz.ntmps46
  go_wp2_with fail
  refine (repl_walk s _ hs).mono ?_
  rintro e w1 ⟨r, rfl, hr, hb⟩
  have HR := Lib.hid hr; clear hr
  have HB := Lib.hid hb; clear hb
  go_wp2_with fail
  go_ret
  exact ⟨r, rfl, HR.out, HB.out⟩
end Go.Proofs.YtgfaadggalnbgaaGreatDoor
