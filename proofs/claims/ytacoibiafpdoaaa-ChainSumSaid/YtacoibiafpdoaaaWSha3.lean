/- Walks of sha.constants and of the method turned: what a block does to the state. -/
import Derived.Test.YtacoibiafpdoaaaWSha2
namespace Go.Proofs.Ytacoibiafpdoaaa
open Go Go.RowKit
set_option linter.unusedVariables false

def S8.cells (s : S8) : List Value := [.int .u32 s.a, .int .u32 s.b, .int .u32 s.c, .int .u32 s.d, .int .u32 s.e, .int .u32 s.f, .int .u32 s.g, .int .u32 s.h]
theorem S8.val_cells (s : S8) : s.val = .agg s.cells.toArray := rfl
theorem S8.cells_length (s : S8) : s.cells.length = 8 := rfl
theorem S8.cells_one (s : S8) : ∀ v ∈ s.cells, v.oneCell' = true := by
  intro v hv
  simp only [S8.cells, List.mem_cons, List.not_mem_nil, or_false] at hv
  rcases hv with rfl | rfl | rfl | rfl | rfl | rfl | rfl | rfl <;> rfl
def S8.zero : S8 := ⟨0, 0, 0, 0, 0, 0, 0, 0⟩

set_option maxRecDepth 100000 in
set_option maxHeartbeats 400000 in
theorem constants_walk (w : World) :
    Calls Try.prog 151 #[] w fun e w' => e = .returned (.agg (nums32 roundK).toArray) ∧ Below w.heap.size w w' := by
  have hi : Hid ((Try.prog.info? 170).map (·.size) = some (nums32 roundK).length) := by show _ = _; kernel_rfl
  have hz : Hid (Blk (w.alloc (.cells (List.replicate 64 (Value.int .u32 0)).toArray 170)) w.heap.size (List.replicate 64 (.int .u32 0)) 170) := Blk.new _ _ _
  have hb : Hid (Below w.heap.size w (w.alloc (.cells (List.replicate 64 (Value.int .u32 0)).toArray 170))) := (Below.refl _ _).alloc (Nat.le_refl _) _
  have hl : Hid ((nums32 roundK).length = (List.replicate 64 (Value.int .u32 0)).length) := by show _ = _; rfl
  go_enter Try.func151, Try.ntmps151
  go_wp2_with (first
    | ((with_reducible refine wpList_build_eq 170 ?parts (nums32 roundK) ?hgd ?ho ?hf ?_); (case hgd => rfl); (case ho => rfl); (case hf => kernel_rfl))
    | ((with_reducible refine wpList_store_blk 170 (.tmp 0) (.tmp 1) w.heap.size (List.replicate 64 (Value.int .u32 0)) (nums32 roundK) 170 ?hz ?hl hi.out (nums32_one _) ?hgd ?ho ?hx ?hy ?_); (case hgd => rfl); (case ho => rfl); (case hx => rfl); (case hz => exact hz.out); (case hl => exact hl.out); (case hy => rfl))
    | ((with_reducible refine bodyPost_ret (v := .agg (nums32 roundK).toArray) ?hr ?hd ?hR)
       (case hd => rfl)
       (case hR => exact ⟨rfl, Below.setCells (Nat.le_refl _) _ _ hb.out⟩)
       (case hr => exact results_cell_row rfl _ _ w.heap.size _ _ _ _ rfl (hz.out.setAll (nums32 roundK) hl.out) Try.underlying170 rfl (by rw [List.size_toArray]; exact hi.out))))
end Go.Proofs.Ytacoibiafpdoaaa
