/- Walk of DeriveLong: for every master, label and number the program's row of bytes is the documents'. No condition. -/
import Derived.Test.YtacoibiafpdoaaaRef8
import Derived.Test.YtacoibiafpdoaaaLaw04
namespace Go.Proofs.Ytacoibiafpdoaaa
open Go Go.RowKit
set_option linter.unusedVariables false

set_option maxHeartbeats 4000000 in
theorem deriveLong_walk (master label : ByteArray) (n : Int) (w : World) :
    Calls Try.prog 14 #[.string master, .string label, .int .i64 n] w fun e w' => e = .returned (.bool true) ∧ Below w.heap.size w w' := by
  by_cases c1 : 200 < master.size
  · have d1 : (200 : Int) < master.size := by omega
    go_enter Try.func14, Try.ntmps14
    go_wp2_with fail
    refine (alive04 _).mono ?_
    rintro e w1 ⟨rfl, hb1⟩
    go_wp2_with fail
    go_ret
    exact ⟨rfl, hb1⟩
  have d1 : (master.size : Int) ≤ 200 := by omega
  by_cases c2 : n ≤ 400
  · skip
    go_enter Try.func14, Try.ntmps14
    go_wp2_with fail
    refine (long_walk master label n _ (by omega)).mono ?_
    rintro e w1 ⟨⟨g1, g2, g3, a, rfl, ta⟩ | ⟨hbad, rfl⟩, hb1⟩
    · go_wp2_with fail
      refine (rlong_walk master label n _ (by omega)).mono ?_
      rintro e w2 ⟨⟨_, _, _, b, rfl, tb⟩ | ⟨hbad, rfl⟩, hb2⟩
      · have hx : (a.toList == b.toList) = true := ta.same tb rfl
        go_wp2_with fail
        refine (alive04 _).mono ?_
        rintro e w3 ⟨rfl, hb3⟩
        go_wp2_with fail
        go_ret
        have q1 := hb1.size
        have q2 := hb2.size
        exact ⟨rfl, (hb1.trans (hb2.mono (by omega))).trans (hb3.mono (by omega))⟩
      · exfalso
        rcases hbad with h | h | h
        · omega
        · omega
        · rw [g3] at h; cases h
    · have HB := Lib.hid hbad; clear hbad
      go_wp2_with fail
      refine (rlong_walk master label n _ (by omega)).mono ?_
      rintro e w2 ⟨⟨g1, g2, g3, b, rfl, tb⟩ | ⟨_, rfl⟩, hb2⟩
      · exfalso
        rcases HB.out with h | h | h
        · omega
        · omega
        · rw [g3] at h; cases h
      · go_wp2_with fail
        refine (alive04 _).mono ?_
        rintro e w3 ⟨rfl, hb3⟩
        go_wp2_with fail
        go_ret
        have q1 := hb1.size
        have q2 := hb2.size
        exact ⟨rfl, (hb1.trans (hb2.mono (by omega))).trans (hb3.mono (by omega))⟩
  have d2 : 400 < n := by omega
  by_cases c3 : n ≤ 8160
  · skip
    go_enter Try.func14, Try.ntmps14
    go_wp2_with fail
    refine (alive04 _).mono ?_
    rintro e w1 ⟨rfl, hb1⟩
    go_wp2_with fail
    go_ret
    exact ⟨rfl, hb1⟩
  have d3 : 8160 < n := by omega
  go_enter Try.func14, Try.ntmps14
  go_wp2_with fail
  refine (long_walk master label n _ (by omega)).mono ?_
  rintro e w1 ⟨⟨g1, g2, g3, a, rfl, ta⟩ | ⟨hbad, rfl⟩, hb1⟩
  · go_wp2_with fail
    refine (rlong_walk master label n _ (by omega)).mono ?_
    rintro e w2 ⟨⟨_, _, _, b, rfl, tb⟩ | ⟨hbad, rfl⟩, hb2⟩
    · have hx : (a.toList == b.toList) = true := ta.same tb rfl
      go_wp2_with fail
      refine (alive04 _).mono ?_
      rintro e w3 ⟨rfl, hb3⟩
      go_wp2_with fail
      go_ret
      have q1 := hb1.size
      have q2 := hb2.size
      exact ⟨rfl, (hb1.trans (hb2.mono (by omega))).trans (hb3.mono (by omega))⟩
    · exfalso
      rcases hbad with h | h | h
      · omega
      · omega
      · rw [g3] at h; cases h
  · have HB := Lib.hid hbad; clear hbad
    go_wp2_with fail
    refine (rlong_walk master label n _ (by omega)).mono ?_
    rintro e w2 ⟨⟨g1, g2, g3, b, rfl, tb⟩ | ⟨_, rfl⟩, hb2⟩
    · exfalso
      rcases HB.out with h | h | h
      · omega
      · omega
      · rw [g3] at h; cases h
    · go_wp2_with fail
      refine (alive04 _).mono ?_
      rintro e w3 ⟨rfl, hb3⟩
      go_wp2_with fail
      go_ret
      have q1 := hb1.size
      have q2 := hb2.size
      exact ⟨rfl, (hb1.trans (hb2.mono (by omega))).trans (hb3.mono (by omega))⟩
end Go.Proofs.Ytacoibiafpdoaaa
