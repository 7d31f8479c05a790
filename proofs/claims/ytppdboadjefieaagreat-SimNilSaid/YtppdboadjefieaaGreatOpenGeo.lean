/- What a statement's parameters hand to its walk: a shape by value. -/
import Derived.Test.YtppdboadjefieaaGreatVolS
import Derived.Test.YtppdboadjefieaaGreatG3
import Derived.Lib.SmallJoins
import Derived.Deep.Fields
namespace Go.Proofs.YtppdboadjefieaaGreat
set_option linter.unusedSimpArgs false
set_option linter.unusedVariables false
open Go Go.RowKit Go.ChangeShapes Go.WideShapes Go.Deep
set_option linter.unusedVariables false

/-- A shape whose numbers fit. -/
structure GeoFits (g : GeoD) : Prop where
  blocks : Fits g.blocks
  lbas : Fits g.lbas
  first : Fits g.first

section
variable {H : Type} {enc : TypeId × Value → H} {w : World} {base : Nat} {spare : Nat → Bool} {held : Bool}
set_option maxRecDepth 100000 in
theorem geo_trod {fuel : Nat} {cs : List Value} {x : DataW H × List MemPlace} (h : DataW.trod enc Tryz.prog w base spare held fuel 23 cs = some x) : ∃ g : GeoD, cs = g.cells ∧ GeoFits g := by
  obtain ⟨xs, n, _, _, hl, hlen, hf⟩ := DataW.trod_struct Tryz.underlying23 h
  have hc : Tryz.prog.cellsOf 23 = 3 := by kernel_rfl
  have k1 : Tryz.prog.cellsOf 3 = 1 := by kernel_rfl
  rw [hc] at hl
  match cs, hl with
  | [c0, c1, c2], _ =>
    match xs, hlen with
    | [y0, y1, y2], _ =>
      have g0 : DataW.trod enc Tryz.prog w base spare held n 3 (List.take (Tryz.prog.cellsOf 3) (List.drop 0 [c0, c1, c2])) = some y0 := hf 0 _ rfl
      rw [k1] at g0
      have g1 : DataW.trod enc Tryz.prog w base spare held n 3 (List.take (Tryz.prog.cellsOf 3) (List.drop 1 [c0, c1, c2])) = some y1 := hf 1 _ rfl
      rw [k1] at g1
      have g2 : DataW.trod enc Tryz.prog w base spare held n 3 (List.take (Tryz.prog.cellsOf 3) (List.drop 2 [c0, c1, c2])) = some y2 := hf 2 _ rfl
      rw [k1] at g2
      obtain ⟨n0, e0, _, f0⟩ := DataW.trod_int Tryz.underlying3 g0
      obtain ⟨n1, e1, _, f1⟩ := DataW.trod_int Tryz.underlying3 g1
      obtain ⟨n2, e2, _, f2⟩ := DataW.trod_int Tryz.underlying3 g2
      simp at e0 e1 e2
      subst e0 e1 e2
      exact ⟨⟨n0, n1, n2⟩, rfl, ⟨fits_of_wf f0, fits_of_wf f1, fits_of_wf f2⟩⟩

theorem geo_in {v : Value} {d : DataW H} {ps : List MemPlace} (hv : ∃ cs, v = .agg cs ∧ cs.size = Tryz.prog.cellsOf 23) (h : DataW.Trod enc Tryz.prog w base spare held 23 v d ps) : ∃ g : GeoD, v = g.v ∧ GeoFits g := by
  obtain ⟨cs, rfl, _⟩ := hv
  obtain ⟨fuel, hf⟩ := h
  obtain ⟨g, hg, hfit⟩ := geo_trod hf
  refine ⟨g, ?_, hfit⟩
  have : cs.toList = g.cells := by simpa [Value.cells] using hg
  show Value.agg cs = Value.agg g.cells.toArray
  rw [← this]
end
end Go.Proofs.YtppdboadjefieaaGreat
