/- Clocks, spaces, books, indices (chapters 6, 12, 22, 23): what New makes, and how they look. -/
import Derived.Test.YtppdboadjefieaaGreatGeom
import Derived.Test.YtppdboadjefieaaGreatMem2
import Derived.WalkSpells
namespace Go.Proofs.YtppdboadjefieaaGreat
set_option linter.unusedSimpArgs false
set_option linter.unusedVariables false
open Go Go.RowKit
set_option linter.unusedVariables false
set_option maxRecDepth 100000

theorem clockNewT_walk (t : Int) (w : World) (h0 : 0 ≤ t) (h1 : t ≤ 1099511627776) :
    Calls Tryz.prog 172 #[.int .i64 t] w fun e w' => (∃ cb, e = .returned (.tuple #[.pointer (some ⟨cb, 0, none⟩), .int .i64 0]) ∧ Blk w' cb [.bool true, .int .i64 t] 224 ∧ w.heap.size ≤ cb) ∧ Below w.heap.size w w' := by
  go_enter Tryz.func172, Tryz.ntmps172
  go_wp2_with fail
  refine Calls.mono (show Calls Tryz.prog 265 #[.int .i64 t] _ (fun e w' => e = .returned (.bool true) ∧ w = w') from ?_) ?_
  · go_enter Tryz.func265, Tryz.ntmps265
    go_wp2_with fail
    go_ret
    exact ⟨rfl, rfl⟩
  rintro e w1 ⟨rfl, rfl⟩
  go_wp2_with (first
    | ((with_reducible refine wpList_box_new 224 (.tmp 8) ([.bool true, .int .i64 t]) (some 9) ?hgd ?ho ?hd ?hx ?_); (case hgd => rfl); (case ho => rfl); (case hd => rfl); (case hx => rfl); (intro b2 w2 l2 B2 e2 z2))
    | fail)
  go_ret2
  exact ⟨⟨b2, rfl, B2, l2⟩, e2.mono l2⟩
theorem clockThere_walk (cb : Nat) (t : Int) (w : World) (h : Blk w cb [.bool true, .int .i64 t] 224) :
    Calls Tryz.prog 137 #[.pointer (some ⟨cb, 0, none⟩)] w fun e w' => e = .returned (.bool true) ∧ w = w' := by
  have c0 := h.cell (i := 0) rfl
  go_enter Tryz.func137, Tryz.ntmps137
  go_wp2_with fail
  go_ret
  exact ⟨rfl, rfl⟩
theorem clockNow_walk (cb : Nat) (t : Int) (w : World) (h : Blk w cb [.bool true, .int .i64 t] 224) :
    Calls Tryz.prog 60 #[.pointer (some ⟨cb, 0, none⟩)] w fun e w' => e = .returned (.int .i64 t) ∧ w = w' := by
  have c1 := h.cell (i := 1) rfl
  go_enter Tryz.func60, Tryz.ntmps60
  go_wp2_with fail
  refine (clockThere_walk cb t _ h).mono ?_
  rintro e w1 ⟨rfl, rfl⟩
  go_wp2_with fail
  go_ret
  exact ⟨rfl, rfl⟩
def spaceCells (g : GeoD) (used : Int) : List Value := [.int .i64 g.blocks, .int .i64 g.lbas, .int .i64 g.first, .int .i64 used, .bool true]
theorem builtSpace (blocks lbas first used : Int) : Tryz.prog.built 215 [(0, .agg (GeoD.cells ⟨blocks, lbas, first⟩).toArray), (1, .int .i64 used), (2, .bool true)] = some (spaceCells ⟨blocks, lbas, first⟩ used).toArray := by kernel_rfl
set_option maxHeartbeats 1000000 in
theorem spaceNew_walk (g : GeoD) (used : Int) (w : World) (hg : GeoOk g) (h0 : 0 ≤ used) (h1 : used ≤ g.blocks - 4) :
    Calls Tryz.prog 263 #[g.v, .int .i64 used] w fun e w' => (∃ sb, e = .returned (.tuple #[.pointer (some ⟨sb, 0, none⟩), .int .i64 0]) ∧ Blk w' sb (spaceCells g used) 215 ∧ w.heap.size ≤ sb) ∧ Below w.heap.size w w' := by
  have hd1 : decide (used < 0) = false := decide_eq_false (by omega)
  have hu2 := hg.b1
  go_enter Tryz.func263, Tryz.ntmps263
  go_wp2_with (first
    | ((with_reducible refine wpList_box_new 23 (.tmp 0) (g.cells) (some 2) ?hgd ?ho ?hd ?hx ?_); (case hgd => rfl); (case ho => rfl); (case hd => rfl); (case hx => rfl); (intro b1 w1 l1 B1 e1 z1))
    | ((with_reducible refine wpList_load_met 23 (.tmp 2) b1 0 g.cells _ (some 6) B1.range Tryz.underlying23 rfl sizeGeo ?hg ?ho ?hds ?hx ?_); (case ho => rfl); (case hg => rfl); (case hds => rfl); (case hx => rfl))
    | fail)
  refine (geomCheck_walk g _ hg).mono ?_
  rintro e w2 ⟨rfl, hb2⟩
  have B2 := B1.below hb2 z1
  have hw2 := (e1.mono l1).trans (hb2.mono (Nat.le_trans l1 (Nat.le_of_lt z1)))
  go_wp2_with (first
    | ((with_reducible refine wpList_load_met 23 (.tmp 2) b1 0 g.cells _ (some 15) B2.range Tryz.underlying23 rfl sizeGeo ?hg ?ho ?hds ?hx ?_); (case ho => rfl); (case hg => rfl); (case hds => rfl); (case hx => rfl))
    | fail)
  refine (geomData_walk g _ hg).mono ?_
  rintro e w3 ⟨rfl, hb3⟩
  have B3 := B2.below hb3 B2.lt
  have hw3 := hw2.trans (hb3.mono hw2.size)
  clear hb2 hb3 hw2 B1 B2 e1
  obtain ⟨blocks, lbas, first⟩ := g
  have hd2 : decide ((blocks - 4 : Int) < used) = false := decide_eq_false (by simp only at h1; omega)
  have q0 : w3.cell? ⟨b1, 0, none⟩ = some (.int .i64 blocks) := B3.cell (i := 0) rfl
  have q1 : w3.cell? ⟨b1, 1, none⟩ = some (.int .i64 lbas) := B3.cell (i := 1) rfl
  have q2 : w3.cell? ⟨b1, 2, none⟩ = some (.int .i64 first) := B3.cell (i := 2) rfl
  clear h1 hu2
  go_wp2_with (first
    | ((with_reducible refine wpList_box_new 215 (.tmp 21) (spaceCells ⟨blocks, lbas, first⟩ used) (some 22) ?hgd ?ho ?hd ?hx ?_); (case hgd => rfl); (case ho => rfl); (case hd => rfl); (case hx => rfl); (intro b4 w4 l4 B4 e4 z4))
    | fail)
  go_ret2
  have h9 := hw3.size
  exact ⟨⟨b4, rfl, B4, Nat.le_trans h9 l4⟩, hw3.trans (e4.mono (Nat.le_trans h9 l4))⟩
theorem indexNew_walk (w : World) :
    Calls Tryz.prog 169 #[] w fun e w' => (∃ xb, e = .returned (.pointer (some ⟨xb, 0, none⟩)) ∧ Blk w' xb [.bool true, .slice none 0 0] 297 ∧ w.heap.size ≤ xb) ∧ Below w.heap.size w w' := by
  go_enter Tryz.func169, Tryz.ntmps169
  go_wp2_with (first
    | ((with_reducible refine wpList_box_new 297 (.tmp 1) ([.bool true, .slice none 0 0]) (some 2) ?hgd ?ho ?hd ?hx ?_); (case hgd => rfl); (case ho => rfl); (case hd => rfl); (case hx => rfl); (intro b1 w1 l1 B1 e1 z1))
    | fail)
  go_ret
  exact ⟨⟨b1, rfl, B1, l1⟩, e1.mono l1⟩

/-- A book that tells nothing yet. -/
def bookCells (cb : Nat) (first epoch : Int) (m1 m2 m3 : Nat) : List Value := [.pointer (some ⟨cb, 0, none⟩), .int .i64 first, .int .i64 epoch, .map (some m1), .map (some m2), .map (some m3)]
theorem builtBook (p : Value) (first : Int) (m1 m2 m3 : Option Nat) (cb : Nat) (hp : p = .pointer (some ⟨cb, 0, none⟩)) : Tryz.prog.built 213 [(0, p), (1, .int .i64 first), (2, .int .i64 first), (3, .map m1), (4, .map m2), (5, .map m3)] = some [.pointer (some ⟨cb, 0, none⟩), .int .i64 first, .int .i64 first, .map m1, .map m2, .map m3].toArray := by subst hp; kernel_rfl
set_option maxHeartbeats 1000000 in
theorem bookNew_walk (first : Int) (w : World) (h0 : 0 ≤ first) (h1 : first < 4294967296) :
    Calls Tryz.prog 170 #[.int .i64 first] w fun e w' => (∃ bb cb m1 m2 m3, e = .returned (.tuple #[.pointer (some ⟨bb, 0, none⟩), .int .i64 0]) ∧ Blk w' bb (bookCells cb first first m1 m2 m3) 213 ∧ Blk w' cb [.bool true, .int .i64 0] 224 ∧ w.heap.size ≤ bb ∧ w.heap.size ≤ cb) ∧ Below w.heap.size w w' := by
  have hmm := @run_makeMap Tryz.prog
  have hd : ¬ (4294967295 : Int) < first := by omega
  go_enter Tryz.func170, Tryz.ntmps170
  go_wp2_with fail
  refine (clockNewT_walk 0 _ (by decide) (by decide)).mono ?_
  rintro e w1 ⟨⟨cb, rfl, B1, l1⟩, hb1⟩
  have HB1 := Lib.hid B1
  have HBE := Lib.hid hb1
  have HL := Lib.hid l1
  clear B1 hb1 l1
  go_wp2_with (first
    | ((with_reducible refine wpList_build_eq 213 ?parts (bookCells cb first first w1.heap.size (w1.alloc (.map #[] 0)).heap.size ((w1.alloc (.map #[] 0)).alloc (.map #[] 0)).heap.size) ?hg ?ho ?hf ?_); (case hg => rfl); (case ho => rfl); (case hf => exact builtBook _ first _ _ _ cb rfl))
    | ((with_reducible refine wpList_box_new 213 (.tmp 22) (bookCells cb first first w1.heap.size (w1.alloc (.map #[] 0)).heap.size ((w1.alloc (.map #[] 0)).alloc (.map #[] 0)).heap.size) (some 23) ?hgd ?ho ?hd ?hx ?_); (case hgd => rfl); (case ho => rfl); (case hd => rfl); (case hx => rfl); (intro b5 w5 l5 B5 e5 z5))
    | fail)
  go_ret2
  have hz := HBE.out.size
  refine ⟨⟨_, cb, w1.heap.size, w1.heap.size + 1, w1.heap.size + 1 + 1, rfl, ?_, (((HB1.out.alloc _).alloc _).alloc _).alloc _, by omega, HL.out⟩, (((HBE.out.alloc hz _).alloc (by simp; omega) _).alloc (by simp; omega) _).alloc (by simp; omega) _⟩
  have := Blk.new (((w1.alloc (.map #[] 0)).alloc (.map #[] 0)).alloc (.map #[] 0)) (bookCells cb first first w1.heap.size (w1.heap.size + 1) (w1.heap.size + 1 + 1)) 213
  simp at this
  exact this
end Go.Proofs.YtppdboadjefieaaGreat
