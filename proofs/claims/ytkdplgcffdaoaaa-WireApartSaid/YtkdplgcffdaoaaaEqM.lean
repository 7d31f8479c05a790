/- The equality of two leaves, of two asked places, of two receipts and sealed records, as one step. -/
import Derived.Test.YtkdplgcffdaoaaaMsg
import Derived.Test.YtkdplgcffdaoaaaG9
namespace Go.Proofs.Ytkdplgcffdaoaaa
set_option linter.unusedSimpArgs false
set_option linter.unusedVariables false
open Go Go.RowKit
set_option linter.unusedVariables false

theorem guardLeaf : Try.prog.eqGuardType Try.prog.depth 29 = false := by kernel_rfl
theorem guardAsk : Try.prog.eqGuardType Try.prog.depth 23 = false := by kernel_rfl
theorem rsizeLeaf {x : LeafD} : (Try.prog.info? 29).map (·.size) = some x.cells.length := by kernel_rfl
theorem rsizeAsk {e l : Int} : (Try.prog.info? 23).map (·.size) = some ([.int .i64 e, .int .i64 l] : List Value).length := by kernel_rfl
theorem rsizeSld' {x : Sld} : (Try.prog.info? 27).map (·.size) = some x.cells.length := by kernel_rfl
theorem eqLeaf (x y : LeafD) (w : World) : (Op.equalIn 10000 29 (.agg x.cells.toArray) (.agg y.cells.toArray)).run Try.prog w = .ok (decide (x = y)) w := by
  obtain ⟨l, h⟩ := x
  obtain ⟨l', h'⟩ := y
  have e : decide ((⟨l, h⟩ : LeafD) = ⟨l', h'⟩) = (l == l' && (decide (h = h') && true)) := by
    rw [Bool.eq_iff_iff]
    simp
  rw [e]
  refine eq_struct (d := 9999) Try.underlying29 (by kernel_rfl) ?_
  refine eqf_int (k := .i64) (d := 9998) (by decide) (by kernel_rfl) (by kernel_rfl) Try.underlying3 ?_
  refine eqf_str (d := 9998) (by decide) (by kernel_rfl) (by kernel_rfl) Try.underlying9 ?_
  exact eqf_nil
theorem eqAsk (e l e' l' : Int) (w : World) : (Op.equalIn 10000 23 (.agg #[.int .i64 e, .int .i64 l]) (.agg #[.int .i64 e', .int .i64 l'])).run Try.prog w = .ok (decide (e = e' ∧ l = l')) w := by
  have q : decide (e = e' ∧ l = l') = (e == e' && (l == l' && true)) := by
    rw [Bool.eq_iff_iff]
    simp
  rw [q]
  refine eq_struct (d := 9999) Try.underlying23 (by kernel_rfl) ?_
  refine eqf_int (k := .i64) (d := 9998) (by decide) (by kernel_rfl) (by kernel_rfl) Try.underlying3 ?_
  refine eqf_int (k := .i64) (d := 9998) (by decide) (by kernel_rfl) (by kernel_rfl) Try.underlying3 ?_
  exact eqf_nil
theorem eqRcp (x y : Rcp) (w : World) : (Op.equalIn 10000 37 (.agg x.cells.toArray) (.agg y.cells.toArray)).run Try.prog w = .ok (decide (x = y)) w :=
  eqRcp0 x.seq x.r.kind x.r.epoch x.r.time x.r.count x.r.target x.r.till x.r.root x.r.name x.was x.tag y.seq y.r.kind y.r.epoch y.r.time y.r.count y.r.target y.r.till y.r.root y.r.name y.was y.tag w
theorem eqSld (x y : Sld) (w : World) : (Op.equalIn 10000 27 (.agg x.cells.toArray) (.agg y.cells.toArray)).run Try.prog w = .ok (decide (x = y)) w :=
  eqSld0 x.r.kind x.r.epoch x.r.time x.r.count x.r.target x.r.till x.r.root x.r.name x.tag y.r.kind y.r.epoch y.r.time y.r.count y.r.target y.r.till y.r.root y.r.name y.tag w
end Go.Proofs.Ytkdplgcffdaoaaa
