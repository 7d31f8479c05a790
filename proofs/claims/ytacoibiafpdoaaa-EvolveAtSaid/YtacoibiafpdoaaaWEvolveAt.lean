/- Walk of EvolveAt: for every root, first epoch and epoch the law returns true: the key at the epoch is what the documents say. No condition. -/
import Derived.Test.YtacoibiafpdoaaaLaw18
import Derived.Test.YtacoibiafpdoaaaRef10
import Derived.Test.YtacoibiafpdoaaaOpen
namespace Go.Proofs.Ytacoibiafpdoaaa
open Go Go.RowKit
set_option linter.unusedVariables false

/-- Two ends of At are alike. -/
theorem AtEnd.two {root : List UInt8} {first epoch : Int} {e : Ending} (h : AtEnd root first epoch e) :
    (∃ r, e = .returned (.tuple #[.string r, .int .i64 0]) ∧ ∀ f, AtEnd root first epoch f → ∃ q, f = .returned (.tuple #[.string q, .int .i64 0]) ∧ (r.toList == q.toList) = true) ∨
    (∃ n : Int, (n = 2 ∨ n = 6) ∧ e = .returned (.tuple #[.string ⟨#[]⟩, .int .i64 n]) ∧ ∀ f, AtEnd root first epoch f → f = .returned (.tuple #[.string ⟨#[]⟩, .int .i64 n])) := by
  rcases h with ⟨c, r, he, tr⟩ | ⟨c, he⟩ | ⟨c, he⟩
  · refine .inl ⟨r, he, fun f h => ?_⟩
    rcases h with ⟨c', q, hf, tq⟩ | ⟨c', hf⟩ | ⟨c', hf⟩
    · exact ⟨q, hf, tr.same tq rfl⟩
    · omega
    · omega
  · refine .inr ⟨2, .inl rfl, he, fun f h => ?_⟩
    rcases h with ⟨c', q, hf, tq⟩ | ⟨c', hf⟩ | ⟨c', hf⟩
    · omega
    · exact hf
    · omega
  · refine .inr ⟨6, .inr rfl, he, fun f h => ?_⟩
    rcases h with ⟨c', q, hf, tq⟩ | ⟨c', hf⟩ | ⟨c', hf⟩
    · omega
    · omega
    · exact hf

set_option maxHeartbeats 1000000 in
theorem evolveAt_rest (root : ByteArray) (first epoch : Int) (w : World) (c1 : (root.size : Int) ≤ 1000) (hc : first < 0 ∨ (0 ≤ first ∧ epoch < first) ∨ (0 ≤ first ∧ first ≤ epoch ∧ epoch - first ≤ 40) ∨ (0 ≤ first ∧ first ≤ epoch ∧ 40 < epoch - first ∧ 4096 < epoch - first)) (hf : epoch ≤ 9223372036854775807) :
    Calls Try.prog 12 #[.string root, .int .i64 first, .int .i64 epoch] w fun e w' => e = .returned (.bool true) ∧ Below w.heap.size w w' := by
  rcases hc with d1 | ⟨d1, d2⟩ | ⟨d1, d2, d3⟩ | ⟨d1, d2, d3, d4⟩
  all_goals
    go_enter Try.func12, Try.ntmps12
    go_wp2_with fail
    refine (at_walk root first epoch _).mono ?_
    rintro e w1 ⟨he, hb1⟩
    rcases he.two with ⟨r, rfl, h2⟩ | ⟨n, hn, rfl, h2⟩
    · have H2 := Lib.hid h2; clear h2 he
      go_wp2_with fail
      refine (rat_walk root first epoch _).mono ?_
      rintro e w2 ⟨he, hb2⟩
      obtain ⟨q, rfl, hq⟩ := H2.out _ he
      clear he
      go_wp2_with fail
      refine (alive18 _).mono ?_
      rintro e w3 ⟨rfl, hb3⟩
      go_wp2_with fail
      go_ret
      exact ⟨rfl, bt hb1 (bt hb2 hb3)⟩
    · have H2 := Lib.hid h2; clear h2 he
      rcases hn with rfl | rfl
      all_goals
        go_wp2_with fail
        refine (rat_walk root first epoch _).mono ?_
        rintro e w2 ⟨he, hb2⟩
        have hq := H2.out _ he
        subst hq
        clear he
        go_wp2_with fail
        refine (alive18 _).mono ?_
        rintro e w3 ⟨rfl, hb3⟩
        go_wp2_with fail
        go_ret
        exact ⟨rfl, bt hb1 (bt hb2 hb3)⟩

theorem evolveAt_walk (root : ByteArray) (first epoch : Int) (w : World) (hf0 : Fits epoch) :
    Calls Try.prog 12 #[.string root, .int .i64 first, .int .i64 epoch] w fun e w' => e = .returned (.bool true) ∧ Below w.heap.size w w' := by
  by_cases c1 : 1000 < root.size
  · have d1 : (1000 : Int) < root.size := by omega
    go_enter Try.func12, Try.ntmps12
    go_wp2_with fail
    refine (alive18 _).mono ?_
    rintro e w1 ⟨rfl, hb1⟩
    go_wp2_with fail
    go_ret
    exact ⟨rfl, hb1⟩
  · have d0 : (root.size : Int) ≤ 1000 := by omega
    by_cases c : 0 ≤ first ∧ first ≤ epoch ∧ 40 < epoch - first ∧ epoch - first ≤ 4096
    · obtain ⟨d1, d2, d3, d4⟩ := c
      go_enter Try.func12, Try.ntmps12
      go_wp2_with fail
      refine (alive18 _).mono ?_
      rintro e w1 ⟨rfl, hb1⟩
      go_wp2_with fail
      go_ret
      exact ⟨rfl, hb1⟩
    · exact evolveAt_rest root first epoch w d0 (by omega) hf0.2
end Go.Proofs.Ytacoibiafpdoaaa
