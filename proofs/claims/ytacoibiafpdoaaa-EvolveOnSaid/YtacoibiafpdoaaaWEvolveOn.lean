/- Walk of EvolveOn: for every root, first epoch and number of steps the law returns true: the key that At makes is the key that so many Nexts make. No condition. -/
import Derived.Test.YtacoibiafpdoaaaLaw18
namespace Go.Proofs.Ytacoibiafpdoaaa
open Go Go.RowKit
set_option linter.unusedVariables false

set_option maxRecDepth 100000 in
set_option maxHeartbeats 4000000 in
theorem evolveOn_walk (root : ByteArray) (first n : Int) (w : World) :
    Calls Try.prog 13 #[.string root, .int .i64 first, .int .i64 n] w fun e w' => e = .returned (.bool true) ∧ Below w.heap.size w w' := by
  by_cases c1 : n < 0
  · go_enter Try.func13, Try.ntmps13
    go_wp2_with fail
    refine (alive18 _).mono ?_
    rintro e w1 ⟨rfl, hb1⟩
    go_wp2_with fail
    go_ret
    exact ⟨rfl, hb1⟩
  by_cases c2 : 200 < n
  · have d1 : 0 ≤ n := by omega
    go_enter Try.func13, Try.ntmps13
    go_wp2_with fail
    refine (alive18 _).mono ?_
    rintro e w1 ⟨rfl, hb1⟩
    go_wp2_with fail
    go_ret
    exact ⟨rfl, hb1⟩
  by_cases c3 : first < 0
  · have d1 : 0 ≤ n := by omega
    have d2 : n ≤ 200 := by omega
    go_enter Try.func13, Try.ntmps13
    go_wp2_with fail
    refine (alive18 _).mono ?_
    rintro e w1 ⟨rfl, hb1⟩
    go_wp2_with fail
    go_ret
    exact ⟨rfl, hb1⟩
  by_cases c4 : 4294967295 - n < first
  · have d1 : 0 ≤ n := by omega
    have d2 : n ≤ 200 := by omega
    have d3 : 0 ≤ first := by omega
    go_enter Try.func13, Try.ntmps13
    go_wp2_with fail
    refine (alive18 _).mono ?_
    rintro e w1 ⟨rfl, hb1⟩
    go_wp2_with fail
    go_ret
    exact ⟨rfl, hb1⟩
  obtain ⟨m, rfl⟩ : ∃ m : Nat, n = (m : Int) := ⟨n.toNat, by omega⟩
  have d1 : (0 : Int) ≤ m := by omega
  have d2 : (m : Int) ≤ 200 := by omega
  have d3 : 0 ≤ first := by omega
  have d4 : first ≤ 4294967295 - (m : Int) := by omega
  have d5 : first ≤ 4294967295 := by omega
  clear c1 c2 c3 c4
  by_cases c5 : root.size = 32
  · go_enter Try.func13, Try.ntmps13
    go_wp2_with fail
    refine (at_walk root first _ _).mono ?_
    rintro e w1 ⟨he, hb1⟩
    obtain ⟨k, rfl, tk⟩ := he.yes ⟨by omega, by omega, by omega, by omega, c5, by omega⟩
    clear he
    rw [show (first + (m : Int) - first).toNat = m by omega] at tk
    go_wp2_with fail
    refine (firstKey_walk root first _).mono ?_
    rintro e w2 ⟨he, hb2⟩
    obtain ⟨b, rfl, tb⟩ := he.yes (by omega)
    clear he
    have hbel : Below w.heap.size w w2 := hb1.trans (hb2.mono hb1.size)
    clear hb1 hb2
    go_wp2_with fail
    go_loopw [9, 58] (fun key i wr => ∃ (j : Nat) (s : ByteArray), j ≤ m ∧ i = .int .i64 j ∧ key = .string s ∧ Txt s (atL root.data.toList first.toNat j) ∧ Below w.heap.size w wr) (fun key i _ => m - (intOf i).toNat)
    case atStart => exact ⟨0, b, by omega, rfl, rfl, tb, hbel⟩
    case round =>
      clear hbel tb
      obtain ⟨j, s, hj, rfl, rfl, ts, hbel⟩ := hrel
      have hs : s.size = 32 := by rw [ts.size, atL_length]
      by_cases hlt : j < m
      · have hlt' : (j : Int) < m := by omega
        go_wp2_with fail
        refine (nextKey_walk s _).mono ?_
        rintro e w3 ⟨he, hb3⟩
        obtain ⟨q, rfl, tq⟩ := he.yes hs
        clear he
        go_wp2_with fail
        go_roundw
        case rel =>
          have y := hbel.size
          refine ⟨j + 1, q, by omega, by go_num, rfl, ?_, hbel.trans (hb3.mono y)⟩
          exact tq.cast (by rw [ts]; rfl)
        case measure => simp [intOf]; omega
      · obtain rfl : j = m := by omega
        have h1 : (s.toList == k.toList) = true := ts.same tk rfl
        have h3 : (k.size : Int) = 32 := by rw [tk.size, atL_length]; rfl
        go_wp2_with fail
        refine (alive18 _).mono ?_
        rintro e w4 ⟨rfl, hb4⟩
        go_wp2_with fail
        go_ret
        exact ⟨rfl, hbel.trans (hb4.mono hbel.size)⟩
  · have c5' : ¬ (root.size : Int) = 32 := by omega
    have c6 : ((root.size : Int) != 32) = true := by simpa using c5'
    go_enter Try.func13, Try.ntmps13
    go_wp2_with fail
    refine (at_walk root first _ _).mono ?_
    rintro e w1 ⟨he, hb1⟩
    obtain rfl : e = .returned (.tuple #[.string ⟨#[]⟩, .int .i64 2]) := by
      rcases he with ⟨h, _⟩ | ⟨_, h⟩ | ⟨h, _⟩
      · exact absurd h.2.2.2.2.1 c5
      · exact h
      · exact absurd h.2.2.2.2.1 c5
    clear he
    go_wp2_with fail
    refine (alive18 _).mono ?_
    rintro e w2 ⟨rfl, hb2⟩
    go_wp2_with fail
    go_ret
    exact ⟨rfl, hb1.trans (hb2.mono hb1.size)⟩
end Go.Proofs.Ytacoibiafpdoaaa
