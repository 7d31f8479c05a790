/- Walk of evolve.At, and the example of chapter 18. -/
import Derived.Test.YtacoibiafpdoaaaEvolve
import Derived.WalkMore
namespace Go.Proofs.Ytacoibiafpdoaaa
open Go Go.RowKit
set_option linter.unusedVariables false

/-- How At ends. -/
def AtEnd (root : List UInt8) (first epoch : Int) (e : Ending) : Prop :=
  ((0 ≤ epoch ∧ epoch ≤ 4294967295 ∧ first ≤ epoch ∧ 0 ≤ first ∧ root.length = 32 ∧ epoch - first ≤ 4096) ∧ ∃ r, e = .returned (.tuple #[.string r, .int .i64 0]) ∧ Txt r (atL root first.toNat (epoch - first).toNat)) ∨
  ((epoch < 0 ∨ 4294967295 < epoch ∨ epoch < first ∨ first < 0 ∨ root.length ≠ 32) ∧ e = .returned (.tuple #[.string ⟨#[]⟩, .int .i64 2])) ∨
  ((0 ≤ epoch ∧ epoch ≤ 4294967295 ∧ first ≤ epoch ∧ 0 ≤ first ∧ root.length = 32 ∧ 4096 < epoch - first) ∧ e = .returned (.tuple #[.string ⟨#[]⟩, .int .i64 6]))

set_option maxRecDepth 100000 in
set_option maxHeartbeats 1000000 in
theorem at_walk (root : ByteArray) (first epoch : Int) (w : World) :
    Calls Try.prog 61 #[.string root, .int .i64 first, .int .i64 epoch] w fun e w' => AtEnd root.data.toList first epoch e ∧ Below w.heap.size w w' := by
  by_cases c1 : 0 ≤ epoch ∧ epoch ≤ 4294967295
  · by_cases c2 : epoch < first
    · go_enter Try.func61, Try.ntmps61
      go_wp2_with fail
      go_step3
      go_wp2_with fail
      refine (may_walk epoch _).mono ?_
      rintro e w1 ⟨rfl, rfl⟩
      rw [decide_eq_true c1]
      go_wp2_with fail
      rw [Exit.noGoto_ret]
      go_ret2
      have hrl : root.data.toList.length = root.size := rfl
      exact ⟨.inr (.inl ⟨by omega, rfl⟩), Below.refl _ _⟩
    · have d2 : first ≤ epoch := by omega
      by_cases c3 : 0 ≤ first ∧ root.size = 32
      · by_cases c4 : 4096 < epoch - first
        · go_enter Try.func61, Try.ntmps61
          go_wp2_with fail
          go_step3
          go_wp2_with fail
          refine (may_walk epoch _).mono ?_
          rintro e w1 ⟨rfl, rfl⟩
          rw [decide_eq_true c1]
          go_wp2_with fail
          refine (firstKey_walk root first _).mono ?_
          rintro e w2 ⟨he, hb2⟩
          obtain ⟨r, rfl, tr⟩ := he.yes (by omega)
          go_wp2_with fail
          rw [Exit.noGoto_ret]
          go_ret2
          have hrl : root.data.toList.length = root.size := rfl
          exact ⟨.inr (.inr ⟨by omega, rfl⟩), hb2⟩
        · have d4 : epoch - first ≤ 4096 := by omega
          obtain ⟨m, Hm⟩ : ∃ m : Nat, Hid ((m : Int) = epoch - first) := ⟨(epoch - first).toNat, Lib.hid (show (((epoch - first).toNat : Nat) : Int) = epoch - first by omega)⟩
          have hm : m ≤ 4096 := by have := Hm.out; omega
          go_enter Try.func61, Try.ntmps61
          go_wp2_with fail
          go_step3
          go_wp2_with fail
          refine (may_walk epoch _).mono ?_
          rintro e w1 ⟨rfl, rfl⟩
          rw [decide_eq_true c1]
          go_wp2_with fail
          refine (firstKey_walk root first _).mono ?_
          rintro e w2 ⟨he, hb2⟩
          obtain ⟨r, rfl, tr⟩ := he.yes (by omega)
          clear he
          go_wp2_with fail
          go_step3
          go_wp2_with fail
          go_loopw [8, 32] (fun key i wr => ∃ (k : Nat) (s : ByteArray), k ≤ m ∧ i = .int .i64 k ∧ key = .string s ∧ Txt s (atL root.data.toList first.toNat k) ∧ Below w.heap.size w wr) (fun key i _ => m - (intOf i).toNat)
          case atStart => exact ⟨0, r, by omega, rfl, rfl, tr, hb2⟩
          case round =>
            clear hb2 tr
            obtain ⟨k, s, hk, rfl, rfl, ts, hbel⟩ := hrel
            have hs : s.size = 32 := by rw [ts.size, atL_length]
            have hk' : (k : Int) ≤ 4096 := by omega
            by_cases hlt : k < m
            · have hne : ¬ (k : Int) = epoch - first := by have := Hm.out; omega
              go_wp2_with fail
              refine (nextKey_walk s _).mono ?_
              rintro e w3 ⟨he, hb3⟩
              obtain ⟨q, rfl, tq⟩ := he.yes hs
              clear he
              go_wp2_with fail
              go_roundw
              case rel =>
                have y := hbel.size
                refine ⟨k + 1, q, by omega, by go_num, rfl, ?_, hbel.trans (hb3.mono y)⟩
                exact tq.cast (by rw [ts]; rfl)
              case measure => simp [intOf]; omega
            · obtain rfl : k = m := by omega
              have heq : (k : Int) = epoch - first := Hm.out
              go_wp2_with fail
              rw [Exit.noGoto_ret]
              go_ret2
              have hrl : root.data.toList.length = root.size := rfl
              exact ⟨.inl ⟨by omega, s, rfl, ts.cast (by rw [show (epoch - first).toNat = k by omega])⟩, hbel⟩
      · go_enter Try.func61, Try.ntmps61
        go_wp2_with fail
        go_step3
        go_wp2_with fail
        refine (may_walk epoch _).mono ?_
        rintro e w1 ⟨rfl, rfl⟩
        rw [decide_eq_true c1]
        go_wp2_with fail
        refine (firstKey_walk root first _).mono ?_
        rintro e w2 ⟨he, hb2⟩
        have he := he.no (by omega)
        subst he
        go_wp2_with fail
        rw [Exit.noGoto_ret]
        go_ret2
        have hrl : root.data.toList.length = root.size := rfl
        exact ⟨.inr (.inl ⟨by omega, rfl⟩), hb2⟩
  · go_enter Try.func61, Try.ntmps61
    go_wp2_with fail
    go_step3
    go_wp2_with fail
    refine (may_walk epoch _).mono ?_
    rintro e w1 ⟨rfl, rfl⟩
    rw [decide_eq_false c1]
    go_wp2_with fail
    rw [Exit.noGoto_ret]
    go_ret2
    have hrl : root.data.toList.length = root.size := rfl
    exact ⟨.inr (.inl ⟨by omega, rfl⟩), Below.refl _ _⟩
end Go.Proofs.Ytacoibiafpdoaaa
