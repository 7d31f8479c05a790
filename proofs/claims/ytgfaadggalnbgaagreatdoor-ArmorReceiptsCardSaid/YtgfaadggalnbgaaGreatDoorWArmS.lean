/- Walk of armor.sum: five bytes of a hash. -/
import Derived.Test.YtgfaadggalnbgaaGreatDoorWArmP2
import Derived.Test.YtgfaadggalnbgaaGreatDoorG3
import Derived.Test.YtgfaadggalnbgaaGreatDoorG6
namespace Go.Proofs.YtgfaadggalnbgaaGreatDoor
set_option linter.unusedSimpArgs false
set_option linter.unusedVariables false
open Go Go.RowKit
set_option linter.unusedVariables false

theorem asum_walk (name s : ByteArray) (w : World) (hn : name.size ≤ 16777216) (hs : s.size ≤ 16777216) :
    Calls Tryz.prog 34 #[.string name, .string s] w fun e w' => ∃ r, e = .returned (.string r) ∧ Txt r ((sha (textL name.data.toList ++ s.data.toList)).take 5) ∧ Below w.heap.size w w' := by
  go_enter Tryz.func34, Tryz.ntmps34
  go_wp2_with fail
  refine (otext_walk name _ (by omega)).mono ?_
  rintro e w1 ⟨r, rfl, tr, hb⟩
  have hr : r.size ≤ 16777220 := by
    rw [tr.size, textL_length]
    have : name.data.toList.length = name.size := rfl
    omega
  have TR := Lib.hid tr; clear tr
  have HB := Lib.hid hb; clear hb
  go_wp2_with fail
  refine (sum_two r s _ _ (by omega)).mono ?_
  rintro e w2 ⟨q, rfl, tq, hb2⟩
  have hq : (5 : Int) ≤ q.size := by rw [tq.size, sha_length]; omega
  have TQ := Lib.hid tq; clear tq
  have HB2 := Lib.hid hb2; clear hb2
  go_wp2_with fail
  go_ret
  refine ⟨_, rfl, (TQ.out.extract 0 5).cast ?_, HB.out.trans (HB2.out.mono HB.out.size)⟩
  rw [show r.data.toList = _ from TR.out]
  rfl
end Go.Proofs.YtgfaadggalnbgaaGreatDoor
