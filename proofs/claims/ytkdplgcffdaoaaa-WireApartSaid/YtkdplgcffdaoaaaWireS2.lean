/- Walk of the documents' Same of two proofs (chapter 16). -/
import Derived.Test.YtkdplgcffdaoaaaWireS1
namespace Go.Proofs.Ytkdplgcffdaoaaa
set_option linter.unusedSimpArgs false
set_option linter.unusedVariables false
open Go Go.RowKit
set_option linter.unusedVariables false

/-- Are two proofs the same? -/
def proofEq (s t : ToldD) : Bool := decide (s.found = t.found) && decide (s.at_ = t.at_) && decide (s.here = t.here) && decide (s.ahead = t.ahead) && decide (s.up = t.up) && decide (s.left = t.left)
set_option maxRecDepth 100000 in
set_option maxHeartbeats 4000000 in
theorem same16_walk (s t : ToldD) (u l u' l' : Value) (w : World) (hu : PRow w u s.up) (hl : PRow w l s.left) (hu' : PRow w u' t.up) (hl' : PRow w l' t.left) (hul : Long s.up.length) (hll : Long s.left.length) (hul' : Long t.up.length) (hll' : Long t.left.length) :
    Calls Try.prog 21 #[.agg (s.pcells u l).toArray, .agg (t.pcells u' l').toArray] w fun e w' => e = .returned (.bool (proofEq s t)) ∧ Below w.heap.size w w' := by
  obtain ⟨r, hr⟩ : ∃ r, r = proofEq s t := ⟨_, rfl⟩
  rw [← hr]
  have HR := Lib.hid hr
  clear hr
  go_enter Try.func21, Try.ntmps21
  go_wp2_with (first
    | ((with_reducible refine wpList_box_new 33 (.tmp 0) (s.pcells u l) (some 2) ?hgd ?ho ?hd ?hx ?_); (case hgd => rfl); (case ho => rfl); (case hd => rfl); (case hx => rfl); (intro b1 w1 l1 B1 e1 z1))
    | ((with_reducible refine wpList_box_new 33 (.tmp 1) (t.pcells u' l') (some 3) ?hgd ?ho ?hd ?hx ?_); (case hgd => rfl); (case ho => rfl); (case hd => rfl); (case hx => rfl); (intro b2 w2 l2 B2 e2 z2); have BB := B1.below e2 (Nat.lt_of_lt_of_le B1.lt l2); have HB2 : Below w.heap.size w w2 := (e1.mono l1).trans (e2.mono (by have := e1.size; omega)); have c0 := BB.cell (i := 0) rfl; have c1 := BB.cell (i := 1) rfl; have c6 := BB.cell (i := 6) rfl; have c7 := BB.cell (i := 7) rfl; have d0 := B2.cell (i := 0) rfl; have d1 := B2.cell (i := 1) rfl; have d6 := B2.cell (i := 6) rfl; have d7 := B2.cell (i := 7) rfl)
    | ((with_reducible refine wpList_load_met 29 (.tmp 18) b1 2 s.here.cells _ (some 19) (BB.lpart2) Try.underlying29 rfl rsizeLeaf ?hg ?ho ?hds ?hx ?_); (case ho => rfl); (case hg => rfl); (case hds => rfl); (case hx => rfl))
    | ((with_reducible refine wpList_load_met 29 (.tmp 20) b2 2 t.here.cells _ (some 21) (B2.lpart2) Try.underlying29 rfl rsizeLeaf ?hg ?ho ?hds ?hx ?_); (case ho => rfl); (case hg => rfl); (case hds => rfl); (case hx => rfl))
    | ((with_reducible refine wpList_eq_agg 29 29 (.tmp 19) (.tmp 21) s.here.cells.toArray t.here.cells.toArray _ (some 22) guardLeaf (eqLeaf s.here t.here _) ?hgd ?ho ?hd ?hx ?hy ?_); (case ho => rfl); (case hgd => rfl); (case hd => rfl); (case hx => rfl); (case hy => rfl))
    | ((with_reducible refine wpList_load_met 29 (.tmp 25) b1 4 s.ahead.cells _ (some 26) (BB.lpart4) Try.underlying29 rfl rsizeLeaf ?hg ?ho ?hds ?hx ?_); (case ho => rfl); (case hg => rfl); (case hds => rfl); (case hx => rfl))
    | ((with_reducible refine wpList_load_met 29 (.tmp 27) b2 4 t.ahead.cells _ (some 28) (B2.lpart4) Try.underlying29 rfl rsizeLeaf ?hg ?ho ?hds ?hx ?_); (case ho => rfl); (case hg => rfl); (case hds => rfl); (case hx => rfl))
    | ((with_reducible refine wpList_eq_agg 29 29 (.tmp 26) (.tmp 28) s.ahead.cells.toArray t.ahead.cells.toArray _ (some 29) guardLeaf (eqLeaf s.ahead t.ahead _) ?hgd ?ho ?hd ?hx ?hy ?_); (case ho => rfl); (case hgd => rfl); (case hd => rfl); (case hx => rfl); (case hy => rfl))
    | (have _ := HB3; go_at_call 36; refine (texts01_walk l l' s.left t.left _ (hl.below HB3 (Nat.le_refl _)) (hl'.below HB3 (Nat.le_refl _)) hll hll').mono ?_; rintro e4 w4 ⟨rfl, hb4⟩; have HB4 := HB3.trans (hb4.mono HB3.size))
    | (go_at_call 36; refine (texts01_walk u u' s.up t.up _ (hu.below HB2 (Nat.le_refl _)) (hu'.below HB2 (Nat.le_refl _)) hul hul').mono ?_; rintro e3 w3 ⟨rfl, hb3⟩; have HB3 := HB2.trans (hb3.mono HB2.size); have P1 := BB.below hb3 BB.lt; have P2 := B2.below hb3 B2.lt; have x6 := P1.cell (i := 6) rfl; have x7 := P1.cell (i := 7) rfl; have y6 := P2.cell (i := 6) rfl; have y7 := P2.cell (i := 7) rfl)
    | fail)
  all_goals go_ret
  all_goals refine ⟨ret_b ?_, ?_⟩
  all_goals first | exact HB4 | exact HB3 | exact HB2 | skip
  all_goals (rw [HR.out]; unfold proofEq; simp_all)
end Go.Proofs.Ytkdplgcffdaoaaa
