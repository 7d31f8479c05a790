/- Walk of the documents' Take (keepsakeref39). -/
import Derived.Test.YtgfaadggalnbgaaGreatDoorWArmRPut
import Derived.Test.YtgfaadggalnbgaaGreatDoorArmB
namespace Go.Proofs.YtgfaadggalnbgaaGreatDoor
set_option linter.unusedSimpArgs false
set_option linter.unusedVariables false
open Go Go.RowKit
set_option linter.unusedVariables false

/-- How the documents' Take ends. -/
def RTakeEnd (t : List UInt8) (e : Ending) : Prop :=
  (∃ n s, armTake t = some (n, s) ∧ ∃ a b, e = .returned (.tuple #[.string a, .string b, .bool true]) ∧ Txt a n ∧ Txt b s) ∨ (armTake t = none ∧ e = .returned (.tuple #[.string ⟨#[]⟩, .string ⟨#[]⟩, .bool false]))
theorem foldF_length (t : List UInt8) {n r : List UInt8} {q : Bool} (h : t.foldl stepF ([], [], false) = (n, r, q)) : n.length ≤ t.length ∧ r.length ≤ t.length := by
  rw [foldF_all] at h
  cases hs : splitC 58 t with
  | none =>
    rw [hs] at h
    simp only [Prod.mk.injEq, List.nil_append] at h
    rw [← h.1, ← h.2.1]
    simp
  | some p =>
    obtain ⟨x, y⟩ := p
    rw [hs] at h
    simp only [Prod.mk.injEq, List.nil_append] at h
    have h1 := congrArg List.length (splitC_some hs).1
    rw [List.length_append, List.length_cons] at h1
    have h2 := stripC_length_le 10 y
    rw [← h.1, ← h.2.1]
    omega

set_option maxRecDepth 100000 in
set_option maxHeartbeats 4000000 in
theorem rarmtake_walk (t : ByteArray) (w : World) (ht : t.size ≤ 16777216) :
    Calls Tryz.prog 25 #[.string t] w fun e w' => RTakeEnd t.data.toList e ∧ Below w.heap.size w w' := by
  have hl : t.data.toList.length = t.size := rfl
  have HL := Lib.hid hl; clear hl
  go_enter Tryz.func25, Tryz.ntmps25
  go_wp2_with fail
  go_loop [5, 6, 7, 8] (fun vn vr vq vi => ∃ (i : Nat) (n r : ByteArray) (q : Bool), i ≤ t.size ∧ vi = .int .i64 i ∧ vn = .string n ∧ vr = .string r ∧ vq = .bool q ∧
    (t.data.toList.take i).foldl stepF ([], [], false) = (n.data.toList, r.data.toList, q)) (fun _ _ _ vi => t.size - (intOf vi).toNat)
  case atStart => exact ⟨0, ⟨#[]⟩, ⟨#[]⟩, false, by omega, rfl, rfl, rfl, rfl, rfl⟩
  case round =>
    obtain ⟨i, n, r, q, hi, rfl, rfl, rfl, rfl, hf⟩ := hrel
    have hsz := foldF_length _ hf
    have hnz : n.size ≤ 16777216 := by have := hsz.1; rw [List.length_take] at this; have h2 : n.data.toList.length = n.size := rfl; omega
    have hrz : r.size ≤ 16777216 := by have := hsz.2; rw [List.length_take] at this; have h2 : r.data.toList.length = r.size := rfl; omega
    have HF := Lib.hid hf; clear hf hsz
    by_cases hlt : i < t.size
    · have hlt' : (i : Int) < t.size := by omega
      obtain ⟨c, hc⟩ : ∃ c, c = t[i] := ⟨_, rfl⟩
      have HC := Lib.hid hc; clear hc
      have d1 : IntKind.i64.wrap ((i : Int) + 1) = (i : Int) + 1 := by rw [IntWalk.i64_in _ ⟨by omega, by omega⟩]
      have d2 : (i : Int) ≤ (i : Int) + 1 := by omega
      have d3 : (i : Int) + 1 ≤ t.size := by omega
      have d4 : ((i : Int) + 1).toNat = i + 1 := by omega
      have hstep : (t.data.toList.take (i + 1)).foldl stepF ([], [], false) = stepF (n.data.toList, r.data.toList, q) c := by
        rw [List.take_succ_eq_append_getElem (by rw [HL.out]; exact hlt), List.foldl_append, HF.out, HC.out]; rfl
      have tc : Txt (t.extract i (i + 1)) [c] := ((Txt.self t).extract i (i + 1)).cast (by
        rw [List.take_succ_eq_append_getElem (by rw [HL.out]; exact hlt), List.drop_append, List.drop_of_length_le (by rw [List.length_take]; omega), List.length_take, Nat.min_eq_left (by rw [HL.out]; omega), Nat.sub_self, HC.out]; rfl)
      have hcz : (t.extract i (i + 1)).size ≤ 1 := by rw [tc.size]; simp
      have HT := Lib.hid hstep; have TC := Lib.hid tc
      clear hstep tc
      have hcc : ((t[i].toNat : Nat) : Int) = ((c.toNat : Nat) : Int) := by rw [HC.out]
      cases q with
      | false =>
        by_cases h58 : c = 58
        · have g1 : ((t[i].toNat : Nat) : Int) = 58 := by rw [hcc, h58]; rfl
          have H58 := Lib.hid h58; clear h58 hcc
          go_wp2_with fail
          go_round
          case rel =>
            refine ⟨i + 1, n, r, true, by omega, by go_num, rfl, rfl, rfl, ?_⟩
            rw [HT.out, H58.out]; simp [stepF]
          case measure => simp [intOf]; omega
        · have g1 : ¬ ((t[i].toNat : Nat) : Int) = 58 := by
            rw [hcc]; intro hh; exact h58 (UInt8.toNat_inj.1 (by rw [show (58 : UInt8).toNat = 58 by rfl]; omega))
          have H58 := Lib.hid h58; clear h58 hcc
          go_wp2_with fail
          go_round
          case rel =>
            refine ⟨i + 1, _, r, false, by omega, by go_num, rfl, rfl, rfl, ?_⟩
            rw [HT.out, show (n ++ t.extract i (i + 1)).data.toList = _ from (Txt.self n).append TC.out]
            simp [stepF, H58.out]
          case measure => simp [intOf]; omega
      | true =>
        by_cases h10 : c = 10
        · have g1 : ((t[i].toNat : Nat) : Int) = 10 := by rw [hcc, h10]; rfl
          have H10 := Lib.hid h10; clear h10 hcc
          go_wp2_with fail
          go_round
          case rel =>
            refine ⟨i + 1, n, r, true, by omega, by go_num, rfl, rfl, rfl, ?_⟩
            rw [HT.out, H10.out]; simp [stepF]
          case measure => simp [intOf]; omega
        · have g1 : ¬ ((t[i].toNat : Nat) : Int) = 10 := by
            rw [hcc]; intro hh; exact h10 (UInt8.toNat_inj.1 (by rw [show (10 : UInt8).toNat = 10 by rfl]; omega))
          have H10 := Lib.hid h10; clear h10 hcc
          go_wp2_with fail
          go_round
          case rel =>
            refine ⟨i + 1, n, _, true, by omega, by go_num, rfl, rfl, rfl, ?_⟩
            rw [HT.out, show (r ++ t.extract i (i + 1)).data.toList = _ from (Txt.self r).append TC.out]
            simp [stepF, H10.out]
          case measure => simp [intOf]; omega
    · obtain rfl : i = t.size := by omega
      have hf : t.data.toList.foldl stepF ([], [], false) = (n.data.toList, r.data.toList, q) := by have := HF.out; rwa [List.take_of_length_le (by rw [HL.out]; omega)] at this
      have HS := Lib.hid hf
      clear hf HF
      go_wp2_with fail
      refine (rbytes_walk r _ hrz).mono ?_
      rintro e w3 ⟨he, hb⟩
      have HB := Lib.hid hb
      clear hb
      unfold BytesEnd at he
      rcases he with ⟨o, hd, b, rfl, tb⟩ | ⟨hd, rfl⟩
      · have HD := Lib.hid hd; clear hd
        have hob : b.size = o.length := tb.size
        have hbz : b.size ≤ 16777216 := by
          have h1 := congrArg List.length (decL_letL HD.out)
          rw [letL_length] at h1
          have h2 : r.data.toList.length = r.size := rfl
          omega
        have TB := Lib.hid tb; have HOB := Lib.hid hob; clear tb hob
        by_cases h5 : b.size < 5
        · have HNO := Lib.hid (armTake_short HS.out HD.out (by rw [← HOB.out]; exact h5))
          have h5' : (b.size : Int) < 5 := by omega
          go_wp2_with fail
          go_ret3
          exact ⟨.inr ⟨HNO.out, rfl⟩, HB.out⟩
        · have h5' : (5 : Int) ≤ b.size := by omega
          have tq : Txt (b.extract 0 (b.size - 5)) (o.take (o.length - 5)) := (TB.out.extract 0 (b.size - 5)).cast (by rw [HOB.out]; simp)
          have d1 : IntKind.i64.wrap ((b.size : Int) - 5) = (b.size : Int) - 5 := by rw [IntWalk.i64_in _ ⟨by omega, by omega⟩]
          have d2 : (0 : Int) ≤ (b.size : Int) - 5 := by omega
          have d3 : (b.size : Int) - 5 ≤ b.size := by omega
          have d4 : ((b.size : Int) - 5).toNat = b.size - 5 := by omega
          have hqz : (b.extract 0 (b.size - 5)).size ≤ 16777216 := by rw [tq.size, List.length_take]; have := HOB.out; omega
          have TQ := Lib.hid tq; clear tq
          go_wp2_with fail
          refine (rarmput_walk n _ _ (by omega) (by omega)).mono ?_
          rintro e w4 ⟨he, hb4⟩
          have HB4 := Lib.hid (HB.out.trans (hb4.mono HB.out.size))
          clear hb4
          unfold RPutEnd at he
          rw [show (b.extract 0 (b.size - 5)).data.toList = _ from TQ.out] at he
          rcases he with ⟨hok, r2, rfl, t2⟩ | ⟨hok, rfl⟩
          · by_cases hq : armPut n.data.toList (o.take (o.length - 5)) = t.data.toList
            · have h1 : (r2.toList == t.toList) = true := t2.same (Txt.self t) hq
              have HY := Lib.hid (armTake_yes HS.out HD.out (by rw [← HOB.out]; omega) hok hq)
              clear hok hq
              go_wp2_with fail
              go_ret3
              exact ⟨.inl ⟨_, _, HY.out, _, _, rfl, Txt.self n, TQ.out⟩, HB4.out⟩
            · have h1 : (r2.toList == t.toList) = false := t2.other (Txt.self t) hq
              have HNO := Lib.hid (armTake_no HS.out HD.out (fun h => hq h.2))
              clear hok hq
              go_wp2_with fail
              go_ret3
              exact ⟨.inr ⟨HNO.out, rfl⟩, HB4.out⟩
          · have HNO := Lib.hid (armTake_no HS.out HD.out (fun h => by rw [hok] at h; exact absurd h.1 (by decide)))
            clear hok
            go_wp2_with fail
            go_ret3
            exact ⟨.inr ⟨HNO.out, rfl⟩, HB4.out⟩
      · have HNO := Lib.hid (armTake_bad HS.out hd)
        clear hd
        go_wp2_with fail
        go_ret3
        exact ⟨.inr ⟨HNO.out, rfl⟩, HB.out⟩
end Go.Proofs.YtgfaadggalnbgaaGreatDoor
