/- Walk of SamplePicks: for every text and numbers the law returns true. No condition. -/
import Derived.Test.YtacoibiafpdoaaaSmp5
namespace Go.Proofs.Ytacoibiafpdoaaa
open Go Go.RowKit
set_option linter.unusedVariables false

set_option maxRecDepth 100000 in
set_option maxHeartbeats 2000000 in
theorem samplePicks_walk (s : ByteArray) (f o l n : Int) (w : World) :
    Calls Try.prog 18 #[.string s, .int .i64 f, .int .i64 o, .int .i64 l, .int .i64 n] w fun e w' => e = .returned (.bool true) ∧ Below w.heap.size w w' := by
  obtain ⟨T, hT⟩ : ∃ T, totalS f o l = T := ⟨_, rfl⟩
  have tb := totalS_bd f o l
  rw [hT] at tb
  obtain ⟨t0, t1⟩ := tb
  have HT := Lib.hid hT; clear hT
  by_cases c1 : (1000 : Int) < s.size
  · go_enter Try.func18, Try.ntmps18
    go_wp2_with fail
    refine (rtotal38_walk f o l _).mono ?_
    rintro e wB ⟨rfl, rfl⟩
    rw [HT.out]
    go_wp2_with fail
    refine (alive38 _).mono ?_
    rintro e w1 ⟨rfl, hb1⟩
    go_wp2_with fail
    go_ret
    exact ⟨rfl, hb1⟩
  have c1' : (s.size : Int) ≤ 1000 := by omega
  clear c1
  by_cases c2 : 4096 < T
  · go_enter Try.func18, Try.ntmps18
    go_wp2_with fail
    refine (rtotal38_walk f o l _).mono ?_
    rintro e wB ⟨rfl, rfl⟩
    rw [HT.out]
    go_wp2_with fail
    refine (alive38 _).mono ?_
    rintro e w1 ⟨rfl, hb1⟩
    go_wp2_with fail
    go_ret
    exact ⟨rfl, hb1⟩
  have c2' : T ≤ 4096 := by omega
  clear c2
  by_cases hok : PickOk s f o l n
  · obtain ⟨p1, p2, p3, p4⟩ := hok
    obtain ⟨k, rfl⟩ : ∃ k : Nat, n = (k : Int) := ⟨n.toNat, by omega⟩
    obtain ⟨t, rfl⟩ : ∃ t : Nat, T = (t : Int) := ⟨T.toNat, by omega⟩
    obtain ⟨m, hm⟩ : ∃ m, min k t = m := ⟨_, rfl⟩
    have HM := Lib.hid hm; clear hm
    have P2 := Lib.hid p2; clear p2
    go_enter Try.func18, Try.ntmps18
    go_wp2_with fail
    refine (rtotal38_walk f o l _).mono ?_
    rintro e wB ⟨rfl, rfl⟩
    rw [HT.out]
    go_wp2_with fail
    refine (pick38_yes s f o l k t m _ p1 P2.out (by omega) HT.out HM.out).mono ?_
    rintro e w1 ⟨v, rfl, hown, hb1⟩
    have HO := Lib.hid (AskRow.own hown (by rw [pickS_length])); clear hown
    go_wp2_with fail
    refine (right38_walk f o l _).mono ?_
    rintro e wB ⟨rfl, rfl⟩
    rw [P2.out]
    go_wp2_with fail
    refine (rpick38_walk s f o l k t m _ p1 P2.out (by omega) HT.out (by omega) HM.out).mono ?_
    rintro e w2 ⟨v2, rfl, hown2, hb2⟩
    have HO1 := Lib.hid (HO.out.below hb2 (Nat.le_refl _))
    have HO2 := Lib.hid (AskRow.own hown2 (by rw [pickS_length])); clear hown2
    go_wp2_with fail
    refine (same38_walk v v2 _ _ HO1.out HO2.out (by rw [pickS_length, ← HM.out]; omega)).mono ?_
    rintro e w3 ⟨rfl, hb3⟩
    go_wp2_with fail
    refine (alive38 _).mono ?_
    rintro e w4 ⟨rfl, hb4⟩
    go_wp2_with fail
    go_ret
    exact ⟨rfl, bt hb1 (bt hb2 (bt hb3 hb4))⟩
  · have HOK := Lib.hid hok; clear hok
    have hc : (¬ (s.size : Int) = 32) ∨ ((s.size : Int) = 32 ∧ rightB f o l = false) ∨ ((s.size : Int) = 32 ∧ rightB f o l = true ∧ n < 0) ∨ ((s.size : Int) = 32 ∧ rightB f o l = true ∧ 0 ≤ n ∧ 64 < n) := by
      by_cases q1 : (s.size : Int) = 32
      · cases q2 : rightB f o l with
        | false => exact .inr (.inl ⟨q1, rfl⟩)
        | true =>
          by_cases q3 : n < 0
          · exact .inr (.inr (.inl ⟨q1, rfl, q3⟩))
          · refine .inr (.inr (.inr ⟨q1, rfl, by omega, ?_⟩))
            by_cases q4 : n ≤ 64
            · exact absurd ⟨q1, q2, by omega, q4⟩ HOK.out
            · omega
      · exact .inl q1
    rcases hc with q1 | ⟨q1, q2⟩ | ⟨q1, q2, q3⟩ | ⟨q1, q2, q3, q4⟩
    · go_enter Try.func18, Try.ntmps18
      go_wp2_with fail
      refine (rtotal38_walk f o l _).mono ?_
      rintro e wB ⟨rfl, rfl⟩
      rw [HT.out]
      go_wp2_with fail
      refine (pick38_no s f o l n _ HOK.out).mono ?_
      rintro e w1 ⟨rfl, hb1⟩
      go_wp2_with fail
      refine (alive38 _).mono ?_
      rintro e w4 ⟨rfl, hb4⟩
      go_wp2_with fail
      go_ret
      exact ⟨rfl, bt hb1 hb4⟩
    all_goals
      have Q2 := Lib.hid q2; clear q2
      go_enter Try.func18, Try.ntmps18
      go_wp2_with fail
      refine (rtotal38_walk f o l _).mono ?_
      rintro e wB ⟨rfl, rfl⟩
      rw [HT.out]
      go_wp2_with fail
      refine (pick38_no s f o l n _ HOK.out).mono ?_
      rintro e w1 ⟨rfl, hb1⟩
      go_wp2_with fail
      refine (right38_walk f o l _).mono ?_
      rintro e wB ⟨rfl, rfl⟩
      rw [Q2.out]
      go_wp2_with fail
      refine (alive38 _).mono ?_
      rintro e w4 ⟨rfl, hb4⟩
      go_wp2_with fail
      go_ret
      exact ⟨rfl, bt hb1 hb4⟩
end Go.Proofs.Ytacoibiafpdoaaa
