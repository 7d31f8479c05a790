/- A verifier that is none, or that no call made, answers nothing (chapter 28). -/
import Derived.Test.YtidekfbgjghcjaaGreatWireS3
import Derived.Test.YtidekfbgjghcjaaGreatG18
namespace Go.Proofs.YtidekfbgjghcjaaGreat
set_option linter.unusedSimpArgs false
set_option linter.unusedVariables false
open Go Go.RowKit
set_option linter.unusedVariables false

/-- No verifier, or one that no call made. -/
def NoVer (w : World) (v : Value) : Prop := v = .pointer none ∨ ∃ b, v = .pointer (some ⟨b, 0, none⟩) ∧ b < w.heap.size ∧ w.cell? ⟨b, 2, none⟩ = some (.pointer none)
theorem NoVer.below {w w' : World} {v : Value} (h : NoVer w v) (hb : Below w.heap.size w w') : NoVer w' v := by
  rcases h with h | ⟨b, h, hl, hc⟩
  · exact .inl h
  · exact .inr ⟨b, h, Nat.lt_of_lt_of_le hl hb.size, by rw [hb.cell (by show b < w.heap.size; exact hl)]; exact hc⟩
theorem results_cmv {fn : Func} {p u : Tmp} {ty : TypeId} {cs : List Value} {d : TypeDesc} (h : fn.results = #[.cell p ty, .tmp u]) (tmps : Array Value) (w : World) {b : Nat} (hb : w.rangeAt b 0 cs) (hp : tmps.getD p undef = .pointer (some ⟨b, 0, none⟩))
    (hu : Tryz.prog.underlying ty = some d) (hd : d.isRow = true) (hi : (Tryz.prog.info? ty).map (·.size) = some cs.length) :
    (results fn tmps).run Tryz.prog w = .ok (.tuple #[.agg cs.toArray, tmps.getD u undef]) w := by
  rw [results_cell_tmp h, hp]
  have e := run_loadVar_mid (P := Tryz.prog) w b 0 ty cs _ hb hu hd hi
  simp only [asAddr, Sem.run_pure, Result.andThen_ok, e]
set_option maxRecDepth 100000 in
theorem vthere_no (v : Value) (w : World) (h : NoVer w v) :
    Calls Tryz.prog 83 #[v] w fun e w' => e = .returned (.bool false) ∧ w = w' := by
  rcases h with rfl | ⟨b, rfl, hl, hc⟩
  · go_enter Tryz.func83, Tryz.ntmps83
    go_wp2_with fail
    go_ret
    exact ⟨rfl, rfl⟩
  · go_enter Tryz.func83, Tryz.ntmps83
    go_wp2_with fail
    go_ret
    exact ⟨rfl, rfl⟩
set_option maxRecDepth 100000 in
set_option maxHeartbeats 1000000 in
theorem vState_no (v : Value) (w : World) (h : NoVer w v) :
    Calls Tryz.prog 32 #[v] w fun e w' => e = .returned (.tuple #[.int .i64 0, .int .i64 1]) ∧ w = w' := by
  go_enter Tryz.func32, Tryz.ntmps32
  go_wp2_with fail
  refine (vthere_no v _ h).mono ?_
  rintro e w1 ⟨rfl, rfl⟩
  go_wp2_with fail
  go_ret2
  exact ⟨rfl, rfl⟩
set_option maxRecDepth 100000 in
set_option maxHeartbeats 1000000 in
theorem vTick_no (v : Value) (t : Int) (w : World) (h : NoVer w v) :
    Calls Tryz.prog 33 #[v, .int .i64 t] w fun e w' => e = .returned (.int .i64 1) ∧ w = w' := by
  go_enter Tryz.func33, Tryz.ntmps33
  go_wp2_with fail
  refine (vthere_no v _ h).mono ?_
  rintro e w1 ⟨rfl, rfl⟩
  go_wp2_with fail
  go_ret
  exact ⟨rfl, rfl⟩
set_option maxRecDepth 100000 in
set_option maxHeartbeats 1000000 in
theorem vHold_no (v : Value) (n : Int) (s : ByteArray) (w : World) (h : NoVer w v) :
    Calls Tryz.prog 34 #[v, .int .i64 n, .string s] w fun e w' => e = .returned (.int .i64 1) ∧ w = w' := by
  go_enter Tryz.func34, Tryz.ntmps34
  go_wp2_with fail
  refine (vthere_no v _ h).mono ?_
  rintro e w1 ⟨rfl, rfl⟩
  go_wp2_with fail
  go_ret
  exact ⟨rfl, rfl⟩
set_option maxRecDepth 100000 in
set_option maxHeartbeats 1000000 in
theorem vRelease_no (v : Value) (s : ByteArray) (w : World) (h : NoVer w v) :
    Calls Tryz.prog 35 #[v, .string s] w fun e w' => e = .returned (.int .i64 1) ∧ w = w' := by
  go_enter Tryz.func35, Tryz.ntmps35
  go_wp2_with fail
  refine (vthere_no v _ h).mono ?_
  rintro e w1 ⟨rfl, rfl⟩
  go_wp2_with fail
  go_ret
  exact ⟨rfl, rfl⟩
set_option maxRecDepth 100000 in
set_option maxHeartbeats 1000000 in
theorem vStart_no (v : Value) (x : Value) (w : World) (h : NoVer w v) :
    Calls Tryz.prog 36 #[v, x] w fun e w' => e = .returned (.int .i64 1) ∧ w = w' := by
  go_enter Tryz.func36, Tryz.ntmps36
  go_wp2_with fail
  refine (vthere_no v _ h).mono ?_
  rintro e w1 ⟨rfl, rfl⟩
  go_wp2_with fail
  go_ret
  exact ⟨rfl, rfl⟩
set_option maxRecDepth 100000 in
set_option maxHeartbeats 1000000 in
theorem vVerdicts_no (v : Value) (w : World) (h : NoVer w v) :
    Calls Tryz.prog 39 #[v] w fun e w' => e = .returned (.slice none 0 0) ∧ w = w' := by
  go_enter Tryz.func39, Tryz.ntmps39
  go_wp2_with fail
  refine (vthere_no v _ h).mono ?_
  rintro e w1 ⟨rfl, rfl⟩
  go_wp2_with fail
  go_ret
  exact ⟨rfl, rfl⟩
set_option maxRecDepth 100000 in
set_option maxHeartbeats 1000000 in
theorem vCount_no (v : Value) (w : World) (h : NoVer w v) :
    Calls Tryz.prog 40 #[v] w fun e w' => e = .returned (.int .i64 0) ∧ w = w' := by
  go_enter Tryz.func40, Tryz.ntmps40
  go_wp2_with fail
  refine (vthere_no v _ h).mono ?_
  rintro e w1 ⟨rfl, rfl⟩
  go_wp2_with fail
  go_ret
  exact ⟨rfl, rfl⟩
set_option maxRecDepth 100000 in
set_option maxHeartbeats 1000000 in
theorem vOut_no (v : Value) (w : World) (h : NoVer w v) :
    Calls Tryz.prog 31 #[v] w fun e w' => e = .returned (.tuple #[MsgD.zero.v (.slice none 0 0) (.slice none 0 0), .bool false]) ∧ Below w.heap.size w w' := by
  have HH := Lib.hid h
  clear h
  go_enter Tryz.func31, Tryz.ntmps31
  go_wp2_with (first
    | ((with_reducible refine wpList_alloc_new 39 mzero zeroMsgB (some 2) ?hgd ?ho ?hd ?_); (case hgd => rfl); (case ho => rfl); (case hd => rfl); (intro b1 w1 l1 B1 e1 z1))
    | fail)
  have hb1 : Below w.heap.size w w1 := e1.mono l1
  have f1 : w.heap.size ≤ b1 := l1
  have HB := Lib.hid B1
  have HB1 := Lib.hid hb1
  clear B1 e1 l1 z1 hb1
  refine (vthere_no v _ (HH.out.below HB1.out)).mono ?_
  rintro e w2 ⟨rfl, hw2⟩
  subst hw2
  go_wp2_with (first
    | ((with_reducible refine wpList_build_eq 39 ?parts mzero ?hg ?ho ?hf ?_); (case hg => rfl); (case ho => rfl); (case hf => kernel_rfl))
    | ((with_reducible refine wpList_store_new 39 (.tmp 2) (.tmp 8) b1 mzero (MsgD.zero.cells (.slice none 0 0) (.slice none 0 0)) 39 HB.out rfl sizeMsg (mcells_one nil_shape nil_shape) ?hgd ?ho ?hx ?hy ?_); (case hgd => rfl); (case ho => rfl); (case hx => rfl); (case hy => rfl); (intro w9 B9 o9))
    | fail)
  (try simp only [Exit.inBlock, Exit.then])
  refine bodyPost_ret (results_cmv rfl _ _ B9.range rfl Tryz.underlying39 rfl sizeMsg) rfl ⟨rfl, o9.below HB1.out f1⟩
set_option maxRecDepth 100000 in
set_option maxHeartbeats 1000000 in
theorem vHead_no (v : Value) (w : World) (h : NoVer w v) :
    Calls Tryz.prog 41 #[v] w fun e w' => e = .returned (MsgD.zero.v (.slice none 0 0) (.slice none 0 0)) ∧ Below w.heap.size w w' := by
  have HH := Lib.hid h
  clear h
  go_enter Tryz.func41, Tryz.ntmps41
  go_wp2_with (first
    | ((with_reducible refine wpList_alloc_new 39 mzero zeroMsgB (some 2) ?hgd ?ho ?hd ?_); (case hgd => rfl); (case ho => rfl); (case hd => rfl); (intro b1 w1 l1 B1 e1 z1))
    | fail)
  have hb1 : Below w.heap.size w w1 := e1.mono l1
  have f1 : w.heap.size ≤ b1 := l1
  have HB := Lib.hid B1
  have HB1 := Lib.hid hb1
  clear B1 e1 l1 z1 hb1
  refine (vthere_no v _ (HH.out.below HB1.out)).mono ?_
  rintro e w2 ⟨rfl, hw2⟩
  subst hw2
  go_wp2_with (first
    | ((with_reducible refine wpList_build_eq 39 ?parts mzero ?hg ?ho ?hf ?_); (case hg => rfl); (case ho => rfl); (case hf => kernel_rfl))
    | ((with_reducible refine wpList_store_new 39 (.tmp 2) (.tmp 6) b1 mzero (MsgD.zero.cells (.slice none 0 0) (.slice none 0 0)) 39 HB.out rfl sizeMsg (mcells_one nil_shape nil_shape) ?hgd ?ho ?hx ?hy ?_); (case hgd => rfl); (case ho => rfl); (case hx => rfl); (case hy => rfl); (intro w9 B9 o9))
    | fail)
  (try simp only [Exit.inBlock, Exit.then])
  refine bodyPost_ret (results_cell1 rfl _ _ B9.range rfl Tryz.underlying39 rfl sizeMsg) rfl ⟨rfl, o9.below HB1.out f1⟩
set_option maxRecDepth 100000 in
set_option maxHeartbeats 1000000 in
theorem vIn_no (v : Value) (m : MsgD) (u l : Value) (w : World) (h : NoVer w v) :
    Calls Tryz.prog 37 #[v, m.v u l] w fun e w' => e = .returned (.int .i64 1) ∧ Below w.heap.size w w' := by
  have HH := Lib.hid h
  clear h
  go_enter Tryz.func37, Tryz.ntmps37
  go_wp2_with (first
    | ((with_reducible refine wpList_box_new 39 (.tmp 1) (m.cells u l) (some 3) ?hgd ?ho ?hd ?hx ?_); (case hgd => rfl); (case ho => rfl); (case hd => rfl); (case hx => rfl); (intro b0 w0 l0 B0 e0 z0))
    | fail)
  have HB0 := Lib.hid (show Below w.heap.size w w0 from e0.mono l0)
  clear B0 e0 l0 z0
  refine (vthere_no v _ (HH.out.below HB0.out)).mono ?_
  rintro e w1 ⟨rfl, hw1⟩
  subst hw1
  go_wp2_with fail
  go_ret
  exact ⟨rfl, HB0.out⟩
end Go.Proofs.YtidekfbgjghcjaaGreat
