/- Walk of ArmorLetters: for every two texts the law returns true: letters and bytes are as the documents say. No condition. -/
import Derived.Test.YtacoibiafpdoaaaLaw39
namespace Go.Proofs.Ytacoibiafpdoaaa
open Go Go.RowKit
set_option linter.unusedVariables false

set_option maxHeartbeats 1000000 in
theorem armorLetters_walk (s t : ByteArray) (w : World) :
    Calls Try.prog 3 #[.string s, .string t] w fun e w' => e = .returned (.bool true) ∧ Below w.heap.size w w' := by
  by_cases c1 : 1000 < s.size
  · have d1 : (1000 : Int) < s.size := by omega
    go_enter Try.func3, Try.ntmps3
    go_wp2_with fail
    refine (alive39 _).mono ?_
    rintro e w1 ⟨rfl, hb1⟩
    go_wp2_with fail
    go_ret
    exact ⟨rfl, hb1⟩
  have d1 : (s.size : Int) ≤ 1000 := by omega
  by_cases c2 : 1000 < t.size
  · have d2 : (1000 : Int) < t.size := by omega
    go_enter Try.func3, Try.ntmps3
    go_wp2_with fail
    refine (alive39 _).mono ?_
    rintro e w1 ⟨rfl, hb1⟩
    go_wp2_with fail
    go_ret
    exact ⟨rfl, hb1⟩
  have d2 : (t.size : Int) ≤ 1000 := by omega
  cases hd : decL t.data.toList with
  | some o =>
    have HD := Lib.hid hd; clear hd
    go_enter Try.func3, Try.ntmps3
    go_wp2_with fail
    refine (abytes_walk t _ (by omega)).mono ?_
    rintro e w1 ⟨⟨o1, h1, a, rfl, ta⟩ | ⟨hno, _⟩, hb1⟩
    rotate_left
    · rw [HD.out] at hno; exact absurd hno (by simp)
    obtain rfl : o1 = o := by rw [HD.out] at h1; exact (Option.some.inj h1).symm
    clear h1
    go_wp2_with fail
    refine (rbytes_walk t _ (by omega)).mono ?_
    rintro e w2 ⟨⟨o2, h2, b, rfl, tb⟩ | ⟨hno, _⟩, hb2⟩
    rotate_left
    · rw [HD.out] at hno; exact absurd hno (by simp)
    obtain rfl : o2 = o1 := by rw [HD.out] at h2; exact (Option.some.inj h2).symm
    clear h2
    have e1 : (a.toList == b.toList) = true := ta.same tb rfl
    go_wp2_with fail
    refine (aletters_walk s _ (by omega)).mono ?_
    rintro e w3 ⟨p, rfl, tp, hb3⟩
    go_wp2_with fail
    refine (rletters_walk s _ (by omega)).mono ?_
    rintro e w4 ⟨q, rfl, tq, hb4⟩
    have e2 : (p.toList == q.toList) = true := tp.same tq rfl
    go_wp2_with fail
    refine (alive39 _).mono ?_
    rintro e w5 ⟨rfl, hb5⟩
    go_wp2_with fail
    go_ret
    exact ⟨rfl, bt hb1 (bt hb2 (bt hb3 (bt hb4 hb5)))⟩
  | none =>
    have HD := Lib.hid hd; clear hd
    go_enter Try.func3, Try.ntmps3
    go_wp2_with fail
    refine (abytes_walk t _ (by omega)).mono ?_
    rintro e w1 ⟨⟨o1, h1, _⟩ | ⟨_, rfl⟩, hb1⟩
    · rw [HD.out] at h1; exact absurd h1 (by simp)
    go_wp2_with fail
    refine (rbytes_walk t _ (by omega)).mono ?_
    rintro e w2 ⟨⟨o2, h2, _⟩ | ⟨_, rfl⟩, hb2⟩
    · rw [HD.out] at h2; exact absurd h2 (by simp)
    go_wp2_with fail
    refine (aletters_walk s _ (by omega)).mono ?_
    rintro e w3 ⟨p, rfl, tp, hb3⟩
    go_wp2_with fail
    refine (rletters_walk s _ (by omega)).mono ?_
    rintro e w4 ⟨q, rfl, tq, hb4⟩
    have e2 : (p.toList == q.toList) = true := tp.same tq rfl
    go_wp2_with fail
    refine (alive39 _).mono ?_
    rintro e w5 ⟨rfl, hb5⟩
    go_wp2_with fail
    go_ret
    exact ⟨rfl, bt hb1 (bt hb2 (bt hb3 (bt hb4 hb5)))⟩
end Go.Proofs.Ytacoibiafpdoaaa
