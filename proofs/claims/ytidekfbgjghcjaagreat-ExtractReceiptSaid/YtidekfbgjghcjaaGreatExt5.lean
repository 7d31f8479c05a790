/- Walk of chapter 32's example. -/
import Derived.Test.YtidekfbgjghcjaaGreatExt4
namespace Go.Proofs.YtidekfbgjghcjaaGreat
set_option linter.unusedSimpArgs false
set_option linter.unusedVariables false
open Go Go.RowKit
set_option linter.unusedVariables false

set_option maxRecDepth 100000 in
set_option maxHeartbeats 4000000 in
theorem alive32 (w : World) :
    Calls Tryz.prog 17 #[] w fun e w' => e = .returned (.bool true) ∧ Below w.heap.size w w' := by
  go_enter Tryz.func17, Tryz.ntmps17
  go_wp2_with (first
    | ((with_reducible refine wpList_build_eq 130 ?parts ([.int .i64 1, .int .i64 2, .int .i64 3, .bool false, .string ⟨#[120]⟩]) ?hg ?ho ?hf ?_); (case hg => rfl); (case ho => rfl); (case hf => kernel_rfl))
    | fail)
  refine (leaves32_walk w.heap.size 1 _ (Blk.new w [.int .i64 1, .int .i64 2, .int .i64 3, .bool false, .string ⟨#[120]⟩] 130)).mono ?_
  rintro e w2 ⟨⟨g, cap, rfl, hc⟩, hb2⟩
  have HC := Lib.hid hc
  have HB2 := Lib.hid (show Below w.heap.size w w2 from Below.trans ((Below.refl _ _).alloc (Nat.le_refl _) _) (hb2.mono (by simp)))
  have hgl : g < w2.heap.size := cell_lt hc
  clear hc hb2
  go_wp2_with (first
    | ((with_reducible refine wpList_build_eq 56 ?parts ([.slice none 0 0, .slice none 0 0, .slice none 0 0]) ?hg ?ho ?hf ?_); (case hg => rfl); (case ho => rfl); (case hf => kernel_rfl))
    | ((with_reducible refine wpList_build_eq 62 ?parts (seenZero) ?hg ?ho ?hf ?_); (case hg => rfl); (case ho => rfl); (case hf => exact builtSeen))
    | fail)
  refine (find32_walk _).mono ?_
  rintro e w3 ⟨rfl, hb3⟩
  have HB3 := Lib.hid (HB2.out.trans (hb3.mono HB2.out.size))
  have c0 : w3.cell? ⟨g, 0, none⟩ = some (.int .i64 3) := by rw [hb3.cell (by show g < w2.heap.size; exact hgl)]; exact HC.out
  clear hb3
  go_wp2_with (first
    | ((with_reducible refine wpList_build_eq 58 ?parts (Fnd.zero.cells) ?hg ?ho ?hf ?_); (case hg => rfl); (case ho => rfl); (case hf => kernel_rfl))
    | ((with_reducible refine wpList_eq_agg 58 58 (.tmp 7) (.tmp 8) Fnd.zero.cells.toArray Fnd.zero.cells.toArray _ (some 9) guardFnd (eqFndY _) ?hgd ?ho ?hd ?hx ?hy ?_); (case hgd => rfl); (case ho => rfl); (case hd => rfl); (case hx => rfl); (case hy => rfl))
    | fail)
  go_ret
  exact ⟨rfl, HB3.out⟩
end Go.Proofs.YtidekfbgjghcjaaGreat
