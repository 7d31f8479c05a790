/- Walk of the documents' Put (keepsakeref39). -/
import Derived.Test.YtgfaadggalnbgaaGreatDoorWArmTake
import Derived.Test.YtgfaadggalnbgaaGreatDoorG4
import Derived.Test.YtgfaadggalnbgaaGreatDoorG5
namespace Go.Proofs.YtgfaadggalnbgaaGreatDoor
set_option linter.unusedSimpArgs false
set_option linter.unusedVariables false
open Go Go.RowKit
set_option linter.unusedVariables false

/-- How the documents' Put ends. -/
def RPutEnd (name s : List UInt8) (e : Ending) : Prop :=
  (armOk name s = true ∧ ∃ r, e = .returned (.tuple #[.string r, .bool true]) ∧ Txt r (armPut name s)) ∨ (armOk name s = false ∧ e = .returned (.tuple #[.string ⟨#[]⟩, .bool false]))
theorem wrapTo_length (l : List UInt8) : ∀ k, (wrapTo l k).length ≤ 2 * k := by
  intro k
  induction k with
  | zero => simp [wrapTo]
  | succ k ih =>
    unfold wrapTo
    have h1 : (if 0 < k ∧ k % 60 = 0 then [(10 : UInt8)] else []).length ≤ 1 := by split <;> simp
    cases l[k]? with
    | none => simp only [List.length_append, List.length_nil]; omega
    | some b => simp only [List.length_append, List.length_cons, List.length_nil]; omega

set_option maxRecDepth 100000 in
set_option maxHeartbeats 4000000 in
theorem rarmput_walk (name s : ByteArray) (w : World) (hn : name.size ≤ 1073741824) (hs : s.size ≤ 1073741824) :
    Calls Tryz.prog 8 #[.string name, .string s] w fun e w' => RPutEnd name.data.toList s.data.toList e ∧ Below w.heap.size w w' := by
  have hl : s.data.toList.length = s.size := rfl
  have hnl : name.data.toList.length = name.size := rfl
  cases c1 : nameOk name.data.toList with
  | false =>
    have C1 := Lib.hid c1; clear c1 hl hnl
    go_enter Tryz.func8, Tryz.ntmps8
    go_wp2_with fail
    refine (rname_walk name _).mono ?_
    rintro e w1 ⟨rfl, hw⟩
    obtain rfl := hw
    rw [C1.out]
    go_wp2_with fail
    go_ret2
    exact ⟨.inr ⟨by unfold armOk; rw [C1.out]; rfl, rfl⟩, Below.refl _ _⟩
  | true =>
  by_cases h4 : s.size ≤ 4000
  case neg =>
    have hok : armOk name.data.toList s.data.toList = false := by unfold armOk; rw [hl]; simp [h4]
    have OK := Lib.hid hok
    have C1 := Lib.hid c1
    have h4' : (4000 : Int) < s.size := by omega
    clear c1 hl hnl hok
    go_enter Tryz.func8, Tryz.ntmps8
    go_wp2_with fail
    refine (rname_walk name _).mono ?_
    rintro e w1 ⟨rfl, hw⟩
    obtain rfl := hw
    rw [C1.out]
    go_wp2_with fail
    go_ret2
    exact ⟨.inr ⟨OK.out, rfl⟩, Below.refl _ _⟩
  have hok : armOk name.data.toList s.data.toList = true := by unfold armOk; rw [hl, c1]; simp [h4]
  have OK := Lib.hid hok
  have hn16 : name.size ≤ 16 := by have := nameOk_len c1; omega
  have C1 := Lib.hid c1
  have h4' : (s.size : Int) ≤ 4000 := by omega
  obtain ⟨T, hT⟩ : ∃ T, T = armT name.data.toList s.data.toList := ⟨_, rfl⟩
  have HT := Lib.hid hT
  have HL := Lib.hid hl
  clear c1 hl hnl hok hT
  go_enter Tryz.func8, Tryz.ntmps8
  go_wp2_with fail
  refine (rname_walk name _).mono ?_
  rintro e w1 ⟨rfl, hw⟩
  obtain rfl := hw
  rw [C1.out]
  go_wp2_with fail
  refine (rtext01_walk name _ (by omega)).mono ?_
  rintro e w2 ⟨a, rfl, ta, hb2⟩
  have ha : a.size ≤ 20 := by
    rw [ta.size, textL_length]
    have : name.data.toList.length = name.size := rfl
    omega
  have TA := Lib.hid ta; clear ta
  go_wp2_with fail
  refine (rsum_walk (a ++ s) _ (by rw [ByteArray.size_append]; omega)).mono ?_
  rintro e w3 ⟨q, rfl, tq, hb3⟩
  have hq : (5 : Int) ≤ q.size := by rw [tq.size, sha_length]; omega
  have tq5 : Txt (q.extract 0 5) ((sha (textL name.data.toList ++ s.data.toList)).take 5) := (tq.extract 0 5).cast (by rw [show (a ++ s).data.toList = _ from TA.out.append (Txt.self s)]; rfl)
  have hq5 : (q.extract 0 5).size = 5 := by rw [tq5.size, List.length_take, sha_length]; rfl
  have TQ := Lib.hid tq5; clear tq tq5
  go_wp2_with fail
  refine (rletters_walk (s ++ q.extract 0 5) _ (by rw [ByteArray.size_append]; omega)).mono ?_
  rintro e w4 ⟨r, rfl, tr, hb4⟩
  have tr' : Txt r T := tr.cast (by rw [HT.out, show (s ++ q.extract 0 5).data.toList = _ from (Txt.self s).append TQ.out]; rfl)
  have hL8 : r.size ≤ 8000 := by rw [tr.size, letL_length, show (s ++ q.extract 0 5).data.toList.length = (s ++ q.extract 0 5).size from rfl, ByteArray.size_append]; omega
  have TR := Lib.hid tr'; clear tr tr'
  have hbel : Below w.heap.size w w4 := hb2.trans ((hb3.trans (hb4.mono hb3.size)).mono hb2.size)
  have HB := Lib.hid hbel; clear hb2 hb3 hb4 hbel
  go_wp2_with fail
  go_loop [7, 8] (fun vo vi => ∃ (i : Nat) (o : ByteArray), i ≤ r.size ∧ vi = .int .i64 i ∧ vo = .string o ∧ Txt o (name.data.toList ++ 58 :: wrapTo T i)) (fun _ vi => r.size - (intOf vi).toNat)
  case atStart => exact ⟨0, _, by omega, rfl, rfl, ((Txt.self name).append (Txt.mk [58])).cast (by simp [wrapTo])⟩
  case round =>
    obtain ⟨i, o, hi, rfl, rfl, to'⟩ := hrel
    have hrT : T.length = r.size := by rw [TR.out.size]
    have hoz : o.size ≤ 20000 := by
      rw [to'.size, List.length_append, List.length_cons]
      have := wrapTo_length T i
      have : name.data.toList.length = name.size := rfl
      omega
    have TO := Lib.hid to'; clear to'
    have HRT := Lib.hid hrT; clear hrT
    by_cases hlt : i < r.size
    · have hlt' : (i : Int) < r.size := by omega
      have hib : (i : Int) ≤ 8000 := by omega
      have d1 : IntKind.i64.wrap ((i : Int) + 1) = (i : Int) + 1 := by rw [IntWalk.i64_in _ ⟨by omega, by omega⟩]
      have d2 : (i : Int) ≤ (i : Int) + 1 := by omega
      have d3 : (i : Int) + 1 ≤ r.size := by omega
      have d4 : ((i : Int) + 1).toNat = i + 1 := by omega
      have hg : T[i]? = some (T[i]'(by rw [HRT.out]; exact hlt)) := List.getElem?_eq_getElem _
      have tc : Txt (r.extract i (i + 1)) (match T[i]? with | some b => [b] | none => []) := ((TR.out).extract i (i + 1)).cast (by
        rw [hg, List.take_succ_eq_append_getElem (by rw [HRT.out]; exact hlt), List.drop_append, List.drop_of_length_le (by rw [List.length_take]; omega), List.length_take, Nat.min_eq_left (by rw [HRT.out]; omega), Nat.sub_self]; rfl)
      have TC := Lib.hid tc
      have hcz : (r.extract i (i + 1)).size ≤ 1 := by rw [tc.size, hg]; simp
      clear tc hg
      by_cases hm : 0 < i ∧ i % 60 = 0
      · obtain ⟨m0, m1⟩ := hm
        have m0' : (0 : Int) < i := by omega
        have m1' : (i : Int) % 60 = 0 := by omega
        have HW := Lib.hid (show wrapTo T (i + 1) = wrapTo T i ++ (if 0 < i ∧ i % 60 = 0 then [10] else []) ++ (match T[i]? with | some b => [b] | none => []) from rfl)
        have HM := Lib.hid (show 0 < i ∧ i % 60 = 0 from ⟨m0, m1⟩)
        clear m0 m1
        go_wp2_with fail
        go_round
        case rel =>
          refine ⟨i + 1, _, by omega, by go_num, rfl, ((TO.out.append (Txt.mk [10])).append TC.out).cast ?_⟩
          rw [HW.out, if_pos HM.out]
          simp
        case measure => simp [intOf]; omega
      · have HW := Lib.hid (show wrapTo T (i + 1) = wrapTo T i ++ (if 0 < i ∧ i % 60 = 0 then [10] else []) ++ (match T[i]? with | some b => [b] | none => []) from rfl)
        have HM := Lib.hid hm
        by_cases m0 : 0 < i
        · have m0' : (0 : Int) < i := by omega
          have m1' : ¬ (i : Int) % 60 = 0 := by omega
          clear hm m0
          go_wp2_with fail
          go_round
          case rel =>
            refine ⟨i + 1, _, by omega, by go_num, rfl, (TO.out.append TC.out).cast ?_⟩
            rw [HW.out, if_neg HM.out]
            simp
          case measure => simp [intOf]; omega
        · have m0' : (i : Int) ≤ 0 := by omega
          clear hm m0
          go_wp2_with fail
          go_round
          case rel =>
            refine ⟨i + 1, _, by omega, by go_num, rfl, (TO.out.append TC.out).cast ?_⟩
            rw [HW.out, if_neg HM.out]
            simp
          case measure => simp [intOf]; omega
    · obtain rfl : i = r.size := by omega
      have hall : wrapTo T r.size = wrapL T := by rw [← HRT.out]; exact wrapTo_all _ _ (Nat.le_refl _)
      have HA := Lib.hid hall; clear hall
      go_wp2_with fail
      go_ret2
      refine ⟨.inl ⟨OK.out, _, rfl, TO.out.cast ?_⟩, HB.out⟩
      rw [HA.out, HT.out]; rfl
end Go.Proofs.YtgfaadggalnbgaaGreatDoor
