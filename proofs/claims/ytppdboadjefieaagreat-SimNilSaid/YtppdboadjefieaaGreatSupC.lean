/- The later superblock of two (chapter 10): Choose, where the first place has noughts. -/
import Derived.Test.YtppdboadjefieaaGreatSupT
namespace Go.Proofs.YtppdboadjefieaaGreat
set_option linter.unusedSimpArgs false
set_option linter.unusedVariables false
open Go Go.RowKit
set_option linter.unusedVariables false
set_option maxRecDepth 100000

theorem results_cell_tmp2t {fn : Func} {p u v : Tmp} {ty : TypeId} (h : fn.results = #[.cell p ty, .tmp u, .tmp v]) (tmps : Array Value) (P : Program) (w : World) :
    (results fn tmps).run P w = ((asAddr (tmps.getD p undef)).run P w).andThen fun a w₁ => ((loadVar ty a).run P w₁).andThen fun x w₂ => .ok (.tuple #[x, tmps.getD u undef, tmps.getD v undef]) w₂ := by
  simp only [results, h]
  simp [Sem.run_bind, Result.andThen]
theorem results_cell2t {fn : Func} {p u v : Tmp} {ty : TypeId} {cs : List Value} {d : TypeDesc} (h : fn.results = #[.cell p ty, .tmp u, .tmp v]) (tmps : Array Value) (w : World) {b : Nat} (hb : w.rangeAt b 0 cs) (hp : tmps.getD p undef = .pointer (some ⟨b, 0, none⟩))
    (hu : Tryz.prog.underlying ty = some d) (hd : d.isRow = true) (hi : (Tryz.prog.info? ty).map (·.size) = some cs.length) :
    (results fn tmps).run Tryz.prog w = .ok (.tuple #[.agg cs.toArray, tmps.getD u undef, tmps.getD v undef]) w := by
  have e := run_loadVar_mid (P := Tryz.prog) w b 0 ty cs _ hb hu hd hi
  rw [results_cell_tmp2t h, hp]
  simp only [asAddr, Sem.run_pure, Result.andThen_ok, e]

set_option maxHeartbeats 2000000 in
theorem supChoose_walk (s : SupD) (b : ByteArray) (w : World) (hb : Txt b (supL s)) (hs : SupOk s) :
    Calls Tryz.prog 332 #[.string (⟨(List.replicate 4096 0).toArray⟩ : ByteArray), .string b] w fun e w' => e = .returned (.tuple #[s.v, .int .i64 1, .int .i64 0]) ∧ Below w.heap.size w w' := by
  go_enter Tryz.func332, Tryz.ntmps332
  go_wp2_with (first
    | ((with_reducible refine wpList_alloc_new 135 _ zeroSup (some 4) ?hgd ?ho ?hd ?_); (case hgd => rfl); (case ho => rfl); (case hd => rfl); (intro b4 w1 l1 B1 e1 z1))
    | fail)
  refine (supNought_walk _).mono ?_
  rintro e w2 ⟨rfl, hb2⟩
  have HB2 := Lib.hid (B1.below hb2 z1)
  have HW2 := Lib.hid ((e1.mono l1).trans (hb2.mono (Nat.le_trans l1 (Nat.le_of_lt z1))))
  have HL := Lib.hid l1
  clear B1 e1 z1 l1 hb2
  go_wp2_with (first
    | ((with_reducible refine wpList_alloc_new 135 _ zeroSup (some 7) ?hgd ?ho ?hd ?_); (case hgd => rfl); (case ho => rfl); (case hd => rfl); (intro b7 w3 l3 B3 e3 z3))
    | ((with_reducible refine wpList_store_new 135 (.tmp 7) (.tmp 14) b7 SupD.zero.cells SupD.zero.cells 135 B3 rfl sizeSup (sup_one _) ?hgd ?ho ?hx ?hy ?_); (case hgd => rfl); (case ho => rfl); (case hx => rfl); (case hy => rfl); (intro w4 B4 o4))
    | fail)
  have hb4 : Below w2.heap.size w2 w4 := o4.below (e3.mono l3) l3
  have HB4 := Lib.hid (HB2.out.below hb4 HB2.out.lt)
  have HW4 := Lib.hid (HW2.out.trans (hb4.mono HW2.out.size))
  clear B3 e3 z3 l3 B4 o4 hb4
  refine (supTake_walk s b _ hb hs).mono ?_
  rintro e w5 ⟨rfl, hb5⟩
  have HB5 := Lib.hid (HB4.out.below hb5 HB4.out.lt)
  have HW5 := Lib.hid (HW4.out.trans (hb5.mono HW4.out.size))
  clear hb5
  go_wp2_with (first
    | ((with_reducible refine wpList_alloc_new 135 _ zeroSup (some 9) ?hgd ?ho ?hd ?_); (case hgd => rfl); (case ho => rfl); (case hd => rfl); (intro b9 w6 l6 B6 e6 z6))
    | ((with_reducible refine wpList_store_new 135 (.tmp 9) (.tmp 19) b9 SupD.zero.cells s.cells 135 B6 rfl sizeSup (sup_one _) ?hgd ?ho ?hx ?hy ?_); (case hgd => rfl); (case ho => rfl); (case hx => rfl); (case hy => rfl); (intro w7 B7 o7); (have hb7 : Below w5.heap.size w5 w7 := o7.below (e6.mono l6) l6); (have B47 := HB5.out.below hb7 HB5.out.lt))
    | ((with_reducible refine wpList_load_blk 135 (.tmp 9) b9 s.cells 135 _ B7 Tryz.underlying135 rfl sizeSup ?hgd ?ho ?hx ?_); (case hgd => rfl); (case ho => rfl); (case hx => rfl))
    | ((with_reducible refine wpList_store_new 135 (.tmp 4) (.tmp 43) b4 SupD.zero.cells s.cells 135 B47 rfl sizeSup (sup_one _) ?hgd ?ho ?hx ?hy ?_); (case hgd => rfl); (case ho => rfl); (case hx => rfl); (case hy => rfl); (intro w8 B8 o8))
    | fail)
  (try simp only [Exit.inBlock, Exit.then]); refine bodyPost_ret (results_cell2t rfl _ _ B8.range rfl Tryz.underlying135 rfl sizeSup) rfl ⟨rfl, o8.below (HW5.out.trans (hb7.mono HW5.out.size)) HL.out⟩
end Go.Proofs.YtppdboadjefieaaGreat
