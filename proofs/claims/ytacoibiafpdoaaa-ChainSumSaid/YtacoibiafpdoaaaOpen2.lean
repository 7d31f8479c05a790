/- What a statement's parameters hand to its walk: a record by value. -/
import Derived.Test.YtacoibiafpdoaaaRec
import Derived.Test.YtacoibiafpdoaaaOpen
import Derived.Lib.SmallJoins
import Derived.Deep.Fields
namespace Go.Proofs.Ytacoibiafpdoaaa
open Go Go.RowKit Go.ChangeShapes Go.WideShapes Go.Deep
set_option linter.unusedVariables false

/-- A record whose numbers fit. -/
structure RecFits (r : Rec) : Prop where
  kind : Fits r.kind
  epoch : Fits r.epoch
  time : Fits r.time
  count : Fits r.count
  target : Fits r.target
  till : Fits r.till

section
variable {H : Type} {enc : TypeId × Value → H} {w : World} {base : Nat} {spare : Nat → Bool} {held : Bool}
set_option maxRecDepth 100000 in
theorem rec_trod {fuel : Nat} {cs : List Value} {x : DataW H × List MemPlace} (h : DataW.trod enc Try.prog w base spare held fuel 32 cs = some x) : ∃ r : Rec, cs = r.cells ∧ RecFits r := by
  obtain ⟨xs, n, _, _, hl, hlen, hf⟩ := DataW.trod_struct Try.underlying32 h
  have hc : Try.prog.cellsOf 32 = 8 := by kernel_rfl
  have k1 : Try.prog.cellsOf 3 = 1 := by kernel_rfl
  have k2 : Try.prog.cellsOf 9 = 1 := by kernel_rfl
  rw [hc] at hl
  match cs, hl with
  | [c0, c1, c2, c3, c4, c5, c6, c7], _ =>
    match xs, hlen with
    | [y0, y1, y2, y3, y4, y5, y6, y7], _ =>
      have g0 : DataW.trod enc Try.prog w base spare held n 3 (List.take (Try.prog.cellsOf 3) (List.drop 0 [c0, c1, c2, c3, c4, c5, c6, c7])) = some y0 := hf 0 _ rfl
      rw [k1] at g0
      have g1 : DataW.trod enc Try.prog w base spare held n 3 (List.take (Try.prog.cellsOf 3) (List.drop 1 [c0, c1, c2, c3, c4, c5, c6, c7])) = some y1 := hf 1 _ rfl
      rw [k1] at g1
      have g2 : DataW.trod enc Try.prog w base spare held n 3 (List.take (Try.prog.cellsOf 3) (List.drop 2 [c0, c1, c2, c3, c4, c5, c6, c7])) = some y2 := hf 2 _ rfl
      rw [k1] at g2
      have g3 : DataW.trod enc Try.prog w base spare held n 3 (List.take (Try.prog.cellsOf 3) (List.drop 3 [c0, c1, c2, c3, c4, c5, c6, c7])) = some y3 := hf 3 _ rfl
      rw [k1] at g3
      have g4 : DataW.trod enc Try.prog w base spare held n 3 (List.take (Try.prog.cellsOf 3) (List.drop 4 [c0, c1, c2, c3, c4, c5, c6, c7])) = some y4 := hf 4 _ rfl
      rw [k1] at g4
      have g5 : DataW.trod enc Try.prog w base spare held n 3 (List.take (Try.prog.cellsOf 3) (List.drop 5 [c0, c1, c2, c3, c4, c5, c6, c7])) = some y5 := hf 5 _ rfl
      rw [k1] at g5
      have g6 : DataW.trod enc Try.prog w base spare held n 9 (List.take (Try.prog.cellsOf 9) (List.drop 6 [c0, c1, c2, c3, c4, c5, c6, c7])) = some y6 := hf 6 _ rfl
      rw [k2] at g6
      have g7 : DataW.trod enc Try.prog w base spare held n 9 (List.take (Try.prog.cellsOf 9) (List.drop 7 [c0, c1, c2, c3, c4, c5, c6, c7])) = some y7 := hf 7 _ rfl
      rw [k2] at g7
      obtain ⟨n0, e0, _, f0⟩ := DataW.trod_int Try.underlying3 g0
      obtain ⟨n1, e1, _, f1⟩ := DataW.trod_int Try.underlying3 g1
      obtain ⟨n2, e2, _, f2⟩ := DataW.trod_int Try.underlying3 g2
      obtain ⟨n3, e3, _, f3⟩ := DataW.trod_int Try.underlying3 g3
      obtain ⟨n4, e4, _, f4⟩ := DataW.trod_int Try.underlying3 g4
      obtain ⟨n5, e5, _, f5⟩ := DataW.trod_int Try.underlying3 g5
      obtain ⟨s6, e6, _, _⟩ := DataW.trod_string Try.underlying9 g6
      obtain ⟨s7, e7, _, _⟩ := DataW.trod_string Try.underlying9 g7
      simp at e0 e1 e2 e3 e4 e5 e6 e7
      subst e0 e1 e2 e3 e4 e5 e6 e7
      exact ⟨⟨n0, n1, n2, n3, n4, n5, s6, s7⟩, rfl, ⟨fits_of_wf f0, fits_of_wf f1, fits_of_wf f2, fits_of_wf f3, fits_of_wf f4, fits_of_wf f5⟩⟩

theorem rec_in {v : Value} {d : DataW H} {ps : List MemPlace} (hv : ∃ cs, v = .agg cs ∧ cs.size = Try.prog.cellsOf 32) (h : DataW.Trod enc Try.prog w base spare held 32 v d ps) : ∃ r : Rec, v = r.v ∧ RecFits r := by
  obtain ⟨cs, rfl, _⟩ := hv
  obtain ⟨fuel, hf⟩ := h
  obtain ⟨r, hr, hfit⟩ := rec_trod hf
  refine ⟨r, ?_, hfit⟩
  have : cs.toList = r.cells := by simpa [Value.cells] using hr
  show Value.agg cs = Value.agg r.cells.toArray
  rw [← this]
end
end Go.Proofs.Ytacoibiafpdoaaa
