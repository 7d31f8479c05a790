/- Walk of armor.Take. -/
import Derived.Test.YtgfaadggalnbgaaGreatDoorWArmPut
namespace Go.Proofs.YtgfaadggalnbgaaGreatDoor
set_option linter.unusedSimpArgs false
set_option linter.unusedVariables false
open Go Go.RowKit
set_option linter.unusedVariables false

/-- How armor.Take ends. -/
def ATakeEnd (t : List UInt8) (e : Ending) : Prop :=
  (∃ n s, armTake t = some (n, s) ∧ ∃ a b, e = .returned (.tuple #[.string a, .string b, .int .i64 0]) ∧ Txt a n ∧ Txt b s) ∨ (armTake t = none ∧ e = .returned (.tuple #[.string ⟨#[]⟩, .string ⟨#[]⟩, .int .i64 3]))

theorem decL_letL {t o : List UInt8} (h : decL t = some o) : letL o = t := by
  unfold decL at h
  split at h
  · cases h
  · split at h
    · next hc => injection h with h; rw [← h]; exact hc
    · cases h

set_option maxRecDepth 100000 in
set_option maxHeartbeats 4000000 in
theorem atake_walk (t : ByteArray) (w : World) (ht : t.size ≤ 16777216) :
    Calls Tryz.prog 23 #[.string t] w fun e w' => ATakeEnd t.data.toList e ∧ Below w.heap.size w w' := by
  go_enter Tryz.func23, Tryz.ntmps23
  go_wp2_with fail
  refine (scut_walk t 58 _ (by omega)).mono ?_
  rintro e w1 ⟨he, hb1⟩
  rcases he with ⟨x, y, hsp, rfl⟩ | ⟨hsp, rfl⟩
  · have HS := Lib.hid hsp
    have hy : y.size ≤ 16777216 := by
      have h := congrArg List.length (splitC_some hsp).1
      rw [List.length_append, List.length_cons, show t.data.toList.length = t.size from rfl, show y.data.toList.length = y.size from rfl] at h
      omega
    have hx : x.size ≤ 16777216 := by
      have h := congrArg List.length (splitC_some hsp).1
      rw [List.length_append, List.length_cons, show t.data.toList.length = t.size from rfl, show x.data.toList.length = x.size from rfl] at h
      omega
    clear hsp
    go_wp2_with fail
    refine (replall_walk y _ (by omega)).mono ?_
    rintro e w2 ⟨r, rfl, tr, hb2⟩
    have hr : r.size ≤ 16777216 := by rw [tr.size]; exact Nat.le_trans (stripC_length_le _ _) hy
    have TR := Lib.hid tr; clear tr
    go_wp2_with fail
    refine (abytes_walk r _ hr).mono ?_
    rintro e w3 ⟨he, hb3⟩
    have hb : Below w.heap.size w w3 := hb1.trans ((hb2.trans (hb3.mono hb2.size)).mono hb1.size)
    have HB := Lib.hid hb
    clear hb hb1 hb2 hb3
    unfold ABytesEnd at he
    rw [show r.data.toList = _ from TR.out] at he
    rcases he with ⟨o, hd, b, rfl, tb⟩ | ⟨hd, rfl⟩
    · have HD := Lib.hid hd; clear hd
      have hob : b.size = o.length := tb.size
      have hbz : b.size ≤ 16777216 := by
        have h1 := congrArg List.length (decL_letL HD.out)
        rw [letL_length] at h1
        have h2 : r.data.toList.length = r.size := rfl
        rw [show r.data.toList = _ from TR.out] at h2
        omega
      have TB := Lib.hid tb; have HOB := Lib.hid hob; clear tb hob
      by_cases h5 : b.size < 5
      · have hno : armTake t.data.toList = none := by
          unfold armTake; rw [HS.out]; simp only [HD.out]; rw [if_neg (by have := HOB.out; omega)]
        have HNO := Lib.hid hno
        have h5' : (b.size : Int) < 5 := by omega
        clear hno
        go_wp2_with fail
        go_ret3
        exact ⟨.inr ⟨HNO.out, rfl⟩, HB.out⟩
      · have h5' : (5 : Int) ≤ b.size := by omega
        have tq : Txt (b.extract 0 (b.size - 5)) (o.take (o.length - 5)) := (TB.out.extract 0 (b.size - 5)).cast (by rw [HOB.out]; simp)
        have d1 : IntKind.i64.wrap ((b.size : Int) - 5) = (b.size : Int) - 5 := by rw [IntWalk.i64_in _ ⟨by omega, by omega⟩]
        have d2 : (0 : Int) ≤ (b.size : Int) - 5 := by omega
        have d3 : (b.size : Int) - 5 ≤ b.size := by omega
        have d4 : ((b.size : Int) - 5).toNat = b.size - 5 := by omega
        have hqz : (b.extract 0 (b.size - 5)).size ≤ 16777216 := by rw [tq.size, List.length_take]; have := HOB.out; omega
        have TQ := Lib.hid tq; clear tq
        go_wp2_with fail
        refine (aput_walk x _ _ (by omega) (by omega)).mono ?_
        rintro e w4 ⟨he, hb4⟩
        have HB4 := Lib.hid (HB.out.trans (hb4.mono HB.out.size))
        clear hb4
        unfold APutEnd at he
        rw [show (b.extract 0 (b.size - 5)).data.toList = _ from TQ.out] at he
        rcases he with ⟨hok, r2, rfl, t2⟩ | ⟨hok, rfl⟩
        · by_cases hq : armPut x.data.toList (o.take (o.length - 5)) = t.data.toList
          · have h1 : (r2.toList == t.toList) = true := t2.same (Txt.self t) hq
            have hyes : armTake t.data.toList = some (x.data.toList, o.take (o.length - 5)) := by
              unfold armTake; rw [HS.out]; simp only [HD.out]; rw [if_pos ⟨by have := HOB.out; omega, hok, hq⟩]
            have HY := Lib.hid hyes
            clear hyes hok hq
            go_wp2_with fail
            go_ret3
            exact ⟨.inl ⟨_, _, HY.out, _, _, rfl, Txt.self x, TQ.out⟩, HB4.out⟩
          · have h1 : (r2.toList == t.toList) = false := t2.other (Txt.self t) hq
            have hno : armTake t.data.toList = none := by
              unfold armTake; rw [HS.out]; simp only [HD.out]; rw [if_neg (fun h => hq h.2.2)]
            have HNO := Lib.hid hno
            clear hno hok hq
            go_wp2_with fail
            go_ret3
            exact ⟨.inr ⟨HNO.out, rfl⟩, HB4.out⟩
        · have hno : armTake t.data.toList = none := by
            unfold armTake; rw [HS.out]; simp only [HD.out]; rw [if_neg (fun h => by rw [hok] at h; exact absurd h.2.1 (by decide))]
          have HNO := Lib.hid hno
          clear hno hok
          go_wp2_with fail
          go_ret3
          exact ⟨.inr ⟨HNO.out, rfl⟩, HB4.out⟩
    · have hno : armTake t.data.toList = none := by
        unfold armTake; rw [HS.out]; simp only [hd]
      have HNO := Lib.hid hno
      clear hno hd
      go_wp2_with fail
      go_ret3
      exact ⟨.inr ⟨HNO.out, rfl⟩, HB.out⟩
  · have hno : armTake t.data.toList = none := by unfold armTake; rw [hsp]
    have HNO := Lib.hid hno
    clear hno hsp
    go_wp2_with fail
    refine (replall_walk ⟨#[]⟩ _ (by decide)).mono ?_
    rintro e w2 ⟨r, rfl, tr, hb2⟩
    have hr : r.size ≤ 16777216 := by rw [tr.size]; exact Nat.le_trans (stripC_length_le _ _) (by decide)
    have HB2 := Lib.hid (hb1.trans (hb2.mono hb1.size)); clear hb1 hb2 tr
    go_wp2_with fail
    refine (abytes_walk r _ hr).mono ?_
    rintro e w3 ⟨he, hb3⟩
    have HB := Lib.hid (HB2.out.trans (hb3.mono HB2.out.size)); clear hb3
    rcases he with ⟨o, hd, b, rfl, tb⟩ | ⟨hd, rfl⟩
    · clear hd tb
      go_wp2_with fail
      all_goals (go_ret3; exact ⟨.inr ⟨HNO.out, rfl⟩, HB.out⟩)
    · clear hd
      go_wp2_with fail
      all_goals (go_ret3; exact ⟨.inr ⟨HNO.out, rfl⟩, HB.out⟩)
end Go.Proofs.YtgfaadggalnbgaaGreatDoor
