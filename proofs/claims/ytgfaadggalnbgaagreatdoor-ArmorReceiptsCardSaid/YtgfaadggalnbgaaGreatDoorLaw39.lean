/- The example of chapter 39. -/
import Derived.Test.YtgfaadggalnbgaaGreatDoorWArmor4
namespace Go.Proofs.YtgfaadggalnbgaaGreatDoor
set_option linter.unusedSimpArgs false
set_option linter.unusedVariables false
open Go Go.RowKit
set_option linter.unusedVariables false

theorem alive39 (w : World) :
    Calls Tryz.prog 5 #[] w fun e w' => e = .returned (.bool true) ∧ Below w.heap.size w w' := by
  go_enter Tryz.func5, Tryz.ntmps5
  go_wp2_with fail
  refine (abytes_walk ⟨#[109, 101]⟩ _ (by decide)).mono ?_
  rintro e w1 ⟨⟨o, ho, r, rfl, tr⟩ | ⟨hno, _⟩, hb1⟩
  rotate_left
  · exact absurd hno (by decide)
  have ho2 : o = [97] := by
    have : decL (⟨#[109, 101]⟩ : ByteArray).data.toList = some [97] := by decide
    rw [this] at ho; exact (Option.some.inj ho).symm
  have h1 : (r.toList == [97]) = true := tr.is ho2
  clear ho ho2
  go_wp2_with fail
  refine (aletters_walk ⟨#[97]⟩ _ (by decide)).mono ?_
  rintro e w2 ⟨q, rfl, tq, hb2⟩
  have h2 : (q.toList == [109, 101]) = true := tq.is (by decide)
  go_wp2_with fail
  go_ret
  exact ⟨rfl, bt hb1 hb2⟩
end Go.Proofs.YtgfaadggalnbgaaGreatDoor
