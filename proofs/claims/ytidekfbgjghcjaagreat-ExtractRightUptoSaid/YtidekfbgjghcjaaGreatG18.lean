/- Walk of the documents' bare of a message (chapter 27): what its kind says alone. Walks of the documents' small checks of a message (chapters 15, 16, 27): epoch, ask, Said, leaf, Whole. Walks of the documents' bytes of a message's parts (chapter 27): num, yes, asks, leafs, paths. Walks of the documents' bytes of a leaf and of a path (chapter 27). -/
import Derived.Test.YtidekfbgjghcjaaGreatG15
namespace Go.Proofs.YtidekfbgjghcjaaGreat
set_option linter.unusedSimpArgs false
set_option linter.unusedVariables false
open Go Go.RowKit

def mzero : List Value := MsgD.zero.cells (.slice none 0 0) (.slice none 0 0)
theorem zeroMsgB (w : World) : Sem.run Tryz.prog (zeroValue 39) w = .ok (.agg mzero.toArray) w := by kernel_rfl
theorem mcells_one {m : MsgD} {u l : Value} {n k : Nat} (hu : ∃ (p : Option Addr) (c : Nat), u = .slice p n c) (hl : ∃ (p : Option Addr) (c : Nat), l = .slice p k c) : ∀ v ∈ m.cells u l, v.oneCell' = true := by
  obtain ⟨p, c, rfl⟩ := hu
  obtain ⟨p', c', rfl⟩ := hl
  intro v hv
  simp only [MsgD.cells, List.mem_cons, List.mem_nil_iff, or_false] at hv
  rcases hv with rfl | rfl | rfl | rfl | rfl | rfl | rfl | rfl | rfl | rfl | rfl | rfl | rfl | rfl | rfl | rfl | rfl | rfl | rfl | rfl | rfl | rfl | rfl | rfl | rfl | rfl | rfl | rfl | rfl | rfl | rfl | rfl | rfl | rfl | rfl | rfl | rfl | rfl | rfl | rfl | rfl <;> rfl
theorem nil_shape : ∃ (p : Option Addr) (c : Nat), Value.slice none 0 0 = .slice p 0 c := ⟨_, _, rfl⟩
theorem results_cell1 {fn : Func} {p : Tmp} {ty : TypeId} {cs : List Value} {d : TypeDesc} (h : fn.results = #[.cell p ty]) (tmps : Array Value) (w : World) {b : Nat} (hb : w.rangeAt b 0 cs) (hp : tmps.getD p undef = .pointer (some ⟨b, 0, none⟩))
    (hu : Tryz.prog.underlying ty = some d) (hd : d.isRow = true) (hi : (Tryz.prog.info? ty).map (·.size) = some cs.length) :
    (results fn tmps).run Tryz.prog w = .ok (.agg cs.toArray) w := by
  have e := run_loadVar_mid (P := Tryz.prog) w b 0 ty cs _ hb hu hd hi
  have e0 : (results fn tmps).run Tryz.prog w = ((asAddr (tmps.getD p undef)).run Tryz.prog w).andThen fun a w₁ => (loadVar ty a).run Tryz.prog w₁ := by
    simp only [results, h]
    simp [Sem.run_bind]
  rw [e0, hp]
  simp only [asAddr, Sem.run_pure, Result.andThen_ok, e]
theorem builtMsg (k : Int) : Tryz.prog.built 39 [(0, .int .i64 k)] = some (({ MsgD.zero with kind := k } : MsgD).cells (.slice none 0 0) (.slice none 0 0)).toArray := by kernel_rfl
theorem builtTold (e l : Int) : Tryz.prog.built 35 [(0, .agg #[.int .i64 e, .int .i64 l]), (1, .bool true)] = some ((⟨e, l, true, false, 0, LeafD.zero, LeafD.zero, [], [], 0, ⟨#[]⟩⟩ : ToldD).cells (.slice none 0 0) (.slice none 0 0)).toArray := by kernel_rfl
theorem sldcells_one {s : Sld} : ∀ v ∈ s.cells, v.oneCell' = true := by
  intro v hv
  simp only [Sld.cells, Rec.cells, List.cons_append, List.nil_append, List.mem_cons, List.mem_nil_iff, or_false] at hv
  rcases hv with rfl | rfl | rfl | rfl | rfl | rfl | rfl | rfl | rfl <;> rfl
theorem rcpcells_one {s : Rcp} : ∀ v ∈ s.cells, v.oneCell' = true := by
  intro v hv
  simp only [Rcp.cells, Rec.cells, List.cons_append, List.nil_append, List.mem_cons, List.mem_nil_iff, or_false] at hv
  rcases hv with rfl | rfl | rfl | rfl | rfl | rfl | rfl | rfl | rfl | rfl | rfl <;> rfl
set_option maxRecDepth 100000 in
set_option maxHeartbeats 8000000 in
theorem bare_1 (epoch seq : Int) (nonce tag last : ByteArray) (askE askL : Int) (sld : Sld) (told : ToldD) (rcp : Rcp) (u l : Value) (w : World) :
    Calls Tryz.prog 96 #[(⟨1, epoch, seq, nonce, tag, last, askE, askL, sld, told, rcp⟩ : MsgD).v u l] w fun e w' => e = .returned ((⟨1, 0, 0, nonce, ⟨#[]⟩, ⟨#[]⟩, 0, 0, Sld.zero, ToldD.zero, Rcp.zero⟩ : MsgD).v (.slice none 0 0) (.slice none 0 0)) ∧ Below w.heap.size w w' := by
  go_enter Tryz.func96, Tryz.ntmps96
  go_wp2_with (first
    | ((with_reducible refine wpList_box_new 39 (.tmp 0) ((⟨1, epoch, seq, nonce, tag, last, askE, askL, sld, told, rcp⟩ : MsgD).cells u l) (some 1) ?hgd ?ho ?hd ?hx ?_); (case hgd | ho | hd | hx => rfl); (intro b1 w1 l1 B1 e1 z1))
    | ((with_reducible refine wpList_alloc_new 39 mzero zeroMsgB (some 2) ?hgd ?ho ?hd ?_); (case hgd | ho | hd => rfl); (intro b2 w2 l2 B2 e2 z2); have A2 := B1.below e2 (Nat.lt_of_lt_of_le B1.lt l2); have a2_0 := A2.cell (i := 0) rfl)
    | ((with_reducible refine wpList_build_eq 39 ?parts ((⟨1, 0, 0, ⟨#[]⟩, ⟨#[]⟩, ⟨#[]⟩, 0, 0, Sld.zero, ToldD.zero, Rcp.zero⟩ : MsgD).cells (.slice none 0 0) (.slice none 0 0)) ?hg ?ho ?hf ?_); (case hg | ho => rfl); (case hf => exact builtMsg _))
    | ((with_reducible refine wpList_alloc_new 39 mzero zeroMsgB (some 3) ?hgd ?ho ?hd ?_); (case hgd | ho | hd => rfl); (intro b3 w3 l3 B3 e3 z3); have A3 := A2.below e3 (Nat.lt_of_lt_of_le A2.lt l3); have R3 := B2.below e3 (Nat.lt_of_lt_of_le B2.lt l3))
    | ((with_reducible refine wpList_store_new 39 (.tmp 3) (.tmp 6) b3 mzero ((⟨1, 0, 0, ⟨#[]⟩, ⟨#[]⟩, ⟨#[]⟩, 0, 0, Sld.zero, ToldD.zero, Rcp.zero⟩ : MsgD).cells (.slice none 0 0) (.slice none 0 0)) 39 B3 rfl sizeMsg (mcells_one nil_shape nil_shape) ?hgd ?ho ?hx ?hy ?_); (case hgd | ho | hx | hy => rfl); (intro w4 B4 o4); have A4 := o4.blk A3 (by have := A2.lt; omega); have R4 := o4.blk R3 (by have := R3.lt; have := B2.lt; omega); have a4_0 := A4.cell (i := 0) rfl; have a4_3 := A4.cell (i := 3) rfl)
    | ((with_reducible refine wpList_store_at 9 (.tmp 12) (.tmp 11) b3 3 (.string nonce) _ _ B4 (Nat.le_of_ble_eq_true rfl) (by kernel_rfl) rfl ?hgd ?ho ?hx ?hy ?_); (case hgd | ho | hx | hy => rfl); (intro w5 B5 o5); replace B5 : Blk w5 b3 ((⟨1, 0, 0, nonce, ⟨#[]⟩, ⟨#[]⟩, 0, 0, Sld.zero, ToldD.zero, Rcp.zero⟩ : MsgD).cells (.slice none 0 0) (.slice none 0 0)) 39 := B5; have A5 := o5.blk A4 (by have := A2.lt; omega); have R5 := o5.blk R4 (by have := R3.lt; have := B2.lt; omega); have a5_0 := A5.cell (i := 0) rfl; have a5_3 := A5.cell (i := 3) rfl)
    | ((with_reducible refine wpList_load_met 39 (.tmp 3) b3 0 ((⟨1, 0, 0, nonce, ⟨#[]⟩, ⟨#[]⟩, 0, 0, Sld.zero, ToldD.zero, Rcp.zero⟩ : MsgD).cells (.slice none 0 0) (.slice none 0 0)) _ (some 89) (B5.range) Tryz.underlying39 rfl sizeMsg ?hg ?ho ?hds ?hx ?_); (case ho | hg | hds | hx => rfl))
    | ((with_reducible refine wpList_store_new 39 (.tmp 2) (.tmp 89) b2 mzero ((⟨1, 0, 0, nonce, ⟨#[]⟩, ⟨#[]⟩, 0, 0, Sld.zero, ToldD.zero, Rcp.zero⟩ : MsgD).cells (.slice none 0 0) (.slice none 0 0)) 39 R5 rfl sizeMsg (mcells_one nil_shape nil_shape) ?hgd ?ho ?hx ?hy ?_); (case hgd | ho | hx | hy => rfl); (intro w99 B99 o99))
    | fail)
  (try simp only [Exit.inBlock, Exit.then])
  refine bodyPost_ret (results_cell1 rfl _ _ B99.range rfl Tryz.underlying39 rfl sizeMsg) rfl ⟨rfl, o99.below ((o5.below ((o4.below (((e1.mono l1).trans (e2.mono (by have := e1.size; omega))).trans (e3.mono (by have := e1.size; have := e2.size; omega))) (by have := e1.size; have := e2.size; omega))) (by have := e1.size; have := e2.size; omega))) (by have := e1.size; omega)⟩
set_option maxRecDepth 100000 in
set_option maxHeartbeats 8000000 in
theorem bare_2 (epoch seq : Int) (nonce tag last : ByteArray) (askE askL : Int) (sld : Sld) (told : ToldD) (rcp : Rcp) (u l : Value) (w : World) :
    Calls Tryz.prog 96 #[(⟨2, epoch, seq, nonce, tag, last, askE, askL, sld, told, rcp⟩ : MsgD).v u l] w fun e w' => e = .returned ((⟨2, epoch, 0, nonce, ⟨#[]⟩, ⟨#[]⟩, 0, 0, Sld.zero, ToldD.zero, Rcp.zero⟩ : MsgD).v (.slice none 0 0) (.slice none 0 0)) ∧ Below w.heap.size w w' := by
  go_enter Tryz.func96, Tryz.ntmps96
  go_wp2_with (first
    | ((with_reducible refine wpList_box_new 39 (.tmp 0) ((⟨2, epoch, seq, nonce, tag, last, askE, askL, sld, told, rcp⟩ : MsgD).cells u l) (some 1) ?hgd ?ho ?hd ?hx ?_); (case hgd | ho | hd | hx => rfl); (intro b1 w1 l1 B1 e1 z1))
    | ((with_reducible refine wpList_alloc_new 39 mzero zeroMsgB (some 2) ?hgd ?ho ?hd ?_); (case hgd | ho | hd => rfl); (intro b2 w2 l2 B2 e2 z2); have A2 := B1.below e2 (Nat.lt_of_lt_of_le B1.lt l2); have a2_0 := A2.cell (i := 0) rfl)
    | ((with_reducible refine wpList_build_eq 39 ?parts ((⟨2, 0, 0, ⟨#[]⟩, ⟨#[]⟩, ⟨#[]⟩, 0, 0, Sld.zero, ToldD.zero, Rcp.zero⟩ : MsgD).cells (.slice none 0 0) (.slice none 0 0)) ?hg ?ho ?hf ?_); (case hg | ho => rfl); (case hf => exact builtMsg _))
    | ((with_reducible refine wpList_alloc_new 39 mzero zeroMsgB (some 3) ?hgd ?ho ?hd ?_); (case hgd | ho | hd => rfl); (intro b3 w3 l3 B3 e3 z3); have A3 := A2.below e3 (Nat.lt_of_lt_of_le A2.lt l3); have R3 := B2.below e3 (Nat.lt_of_lt_of_le B2.lt l3))
    | ((with_reducible refine wpList_store_new 39 (.tmp 3) (.tmp 6) b3 mzero ((⟨2, 0, 0, ⟨#[]⟩, ⟨#[]⟩, ⟨#[]⟩, 0, 0, Sld.zero, ToldD.zero, Rcp.zero⟩ : MsgD).cells (.slice none 0 0) (.slice none 0 0)) 39 B3 rfl sizeMsg (mcells_one nil_shape nil_shape) ?hgd ?ho ?hx ?hy ?_); (case hgd | ho | hx | hy => rfl); (intro w4 B4 o4); have A4 := o4.blk A3 (by have := A2.lt; omega); have R4 := o4.blk R3 (by have := R3.lt; have := B2.lt; omega); have a4_0 := A4.cell (i := 0) rfl; have a4_3 := A4.cell (i := 3) rfl; have a4_1 := A4.cell (i := 1) rfl)
    | ((with_reducible refine wpList_store_at 9 (.tmp 12) (.tmp 11) b3 3 (.string nonce) _ _ B4 (Nat.le_of_ble_eq_true rfl) (by kernel_rfl) rfl ?hgd ?ho ?hx ?hy ?_); (case hgd | ho | hx | hy => rfl); (intro w5 B5 o5); replace B5 : Blk w5 b3 ((⟨2, 0, 0, nonce, ⟨#[]⟩, ⟨#[]⟩, 0, 0, Sld.zero, ToldD.zero, Rcp.zero⟩ : MsgD).cells (.slice none 0 0) (.slice none 0 0)) 39 := B5; have A5 := o5.blk A4 (by have := A2.lt; omega); have R5 := o5.blk R4 (by have := R3.lt; have := B2.lt; omega); have a5_0 := A5.cell (i := 0) rfl; have a5_3 := A5.cell (i := 3) rfl; have a5_1 := A5.cell (i := 1) rfl)
    | ((with_reducible refine wpList_store_at 3 (.tmp 28) (.tmp 27) b3 1 (.int .i64 epoch) _ _ B5 (Nat.le_of_ble_eq_true rfl) (by kernel_rfl) rfl ?hgd ?ho ?hx ?hy ?_); (case hgd | ho | hx | hy => rfl); (intro w6 B6 o6); replace B6 : Blk w6 b3 ((⟨2, epoch, 0, nonce, ⟨#[]⟩, ⟨#[]⟩, 0, 0, Sld.zero, ToldD.zero, Rcp.zero⟩ : MsgD).cells (.slice none 0 0) (.slice none 0 0)) 39 := B6; have A6 := o6.blk A5 (by have := A2.lt; omega); have R6 := o6.blk R5 (by have := R3.lt; have := B2.lt; omega); have a6_0 := A6.cell (i := 0) rfl; have a6_3 := A6.cell (i := 3) rfl; have a6_1 := A6.cell (i := 1) rfl)
    | ((with_reducible refine wpList_load_met 39 (.tmp 3) b3 0 ((⟨2, epoch, 0, nonce, ⟨#[]⟩, ⟨#[]⟩, 0, 0, Sld.zero, ToldD.zero, Rcp.zero⟩ : MsgD).cells (.slice none 0 0) (.slice none 0 0)) _ (some 89) (B6.range) Tryz.underlying39 rfl sizeMsg ?hg ?ho ?hds ?hx ?_); (case ho | hg | hds | hx => rfl))
    | ((with_reducible refine wpList_store_new 39 (.tmp 2) (.tmp 89) b2 mzero ((⟨2, epoch, 0, nonce, ⟨#[]⟩, ⟨#[]⟩, 0, 0, Sld.zero, ToldD.zero, Rcp.zero⟩ : MsgD).cells (.slice none 0 0) (.slice none 0 0)) 39 R6 rfl sizeMsg (mcells_one nil_shape nil_shape) ?hgd ?ho ?hx ?hy ?_); (case hgd | ho | hx | hy => rfl); (intro w99 B99 o99))
    | fail)
  (try simp only [Exit.inBlock, Exit.then])
  refine bodyPost_ret (results_cell1 rfl _ _ B99.range rfl Tryz.underlying39 rfl sizeMsg) rfl ⟨rfl, o99.below ((o6.below ((o5.below ((o4.below (((e1.mono l1).trans (e2.mono (by have := e1.size; omega))).trans (e3.mono (by have := e1.size; have := e2.size; omega))) (by have := e1.size; have := e2.size; omega))) (by have := e1.size; have := e2.size; omega))) (by have := e1.size; have := e2.size; omega))) (by have := e1.size; omega)⟩
set_option maxRecDepth 100000 in
set_option maxHeartbeats 8000000 in
theorem bare_3 (epoch seq : Int) (nonce tag last : ByteArray) (askE askL : Int) (sld : Sld) (told : ToldD) (rcp : Rcp) (u l : Value) (w : World) :
    Calls Tryz.prog 96 #[(⟨3, epoch, seq, nonce, tag, last, askE, askL, sld, told, rcp⟩ : MsgD).v u l] w fun e w' => e = .returned ((⟨3, epoch, 0, nonce, tag, ⟨#[]⟩, 0, 0, Sld.zero, ToldD.zero, Rcp.zero⟩ : MsgD).v (.slice none 0 0) (.slice none 0 0)) ∧ Below w.heap.size w w' := by
  go_enter Tryz.func96, Tryz.ntmps96
  go_wp2_with (first
    | ((with_reducible refine wpList_box_new 39 (.tmp 0) ((⟨3, epoch, seq, nonce, tag, last, askE, askL, sld, told, rcp⟩ : MsgD).cells u l) (some 1) ?hgd ?ho ?hd ?hx ?_); (case hgd | ho | hd | hx => rfl); (intro b1 w1 l1 B1 e1 z1))
    | ((with_reducible refine wpList_alloc_new 39 mzero zeroMsgB (some 2) ?hgd ?ho ?hd ?_); (case hgd | ho | hd => rfl); (intro b2 w2 l2 B2 e2 z2); have A2 := B1.below e2 (Nat.lt_of_lt_of_le B1.lt l2); have a2_0 := A2.cell (i := 0) rfl)
    | ((with_reducible refine wpList_build_eq 39 ?parts ((⟨3, 0, 0, ⟨#[]⟩, ⟨#[]⟩, ⟨#[]⟩, 0, 0, Sld.zero, ToldD.zero, Rcp.zero⟩ : MsgD).cells (.slice none 0 0) (.slice none 0 0)) ?hg ?ho ?hf ?_); (case hg | ho => rfl); (case hf => exact builtMsg _))
    | ((with_reducible refine wpList_alloc_new 39 mzero zeroMsgB (some 3) ?hgd ?ho ?hd ?_); (case hgd | ho | hd => rfl); (intro b3 w3 l3 B3 e3 z3); have A3 := A2.below e3 (Nat.lt_of_lt_of_le A2.lt l3); have R3 := B2.below e3 (Nat.lt_of_lt_of_le B2.lt l3))
    | ((with_reducible refine wpList_store_new 39 (.tmp 3) (.tmp 6) b3 mzero ((⟨3, 0, 0, ⟨#[]⟩, ⟨#[]⟩, ⟨#[]⟩, 0, 0, Sld.zero, ToldD.zero, Rcp.zero⟩ : MsgD).cells (.slice none 0 0) (.slice none 0 0)) 39 B3 rfl sizeMsg (mcells_one nil_shape nil_shape) ?hgd ?ho ?hx ?hy ?_); (case hgd | ho | hx | hy => rfl); (intro w4 B4 o4); have A4 := o4.blk A3 (by have := A2.lt; omega); have R4 := o4.blk R3 (by have := R3.lt; have := B2.lt; omega); have a4_0 := A4.cell (i := 0) rfl; have a4_3 := A4.cell (i := 3) rfl; have a4_1 := A4.cell (i := 1) rfl; have a4_4 := A4.cell (i := 4) rfl)
    | ((with_reducible refine wpList_store_at 9 (.tmp 12) (.tmp 11) b3 3 (.string nonce) _ _ B4 (Nat.le_of_ble_eq_true rfl) (by kernel_rfl) rfl ?hgd ?ho ?hx ?hy ?_); (case hgd | ho | hx | hy => rfl); (intro w5 B5 o5); replace B5 : Blk w5 b3 ((⟨3, 0, 0, nonce, ⟨#[]⟩, ⟨#[]⟩, 0, 0, Sld.zero, ToldD.zero, Rcp.zero⟩ : MsgD).cells (.slice none 0 0) (.slice none 0 0)) 39 := B5; have A5 := o5.blk A4 (by have := A2.lt; omega); have R5 := o5.blk R4 (by have := R3.lt; have := B2.lt; omega); have a5_0 := A5.cell (i := 0) rfl; have a5_3 := A5.cell (i := 3) rfl; have a5_1 := A5.cell (i := 1) rfl; have a5_4 := A5.cell (i := 4) rfl)
    | ((with_reducible refine wpList_store_at 3 (.tmp 28) (.tmp 27) b3 1 (.int .i64 epoch) _ _ B5 (Nat.le_of_ble_eq_true rfl) (by kernel_rfl) rfl ?hgd ?ho ?hx ?hy ?_); (case hgd | ho | hx | hy => rfl); (intro w6 B6 o6); replace B6 : Blk w6 b3 ((⟨3, epoch, 0, nonce, ⟨#[]⟩, ⟨#[]⟩, 0, 0, Sld.zero, ToldD.zero, Rcp.zero⟩ : MsgD).cells (.slice none 0 0) (.slice none 0 0)) 39 := B6; have A6 := o6.blk A5 (by have := A2.lt; omega); have R6 := o6.blk R5 (by have := R3.lt; have := B2.lt; omega); have a6_0 := A6.cell (i := 0) rfl; have a6_3 := A6.cell (i := 3) rfl; have a6_1 := A6.cell (i := 1) rfl; have a6_4 := A6.cell (i := 4) rfl)
    | ((with_reducible refine wpList_store_at 9 (.tmp 39) (.tmp 38) b3 4 (.string tag) _ _ B6 (Nat.le_of_ble_eq_true rfl) (by kernel_rfl) rfl ?hgd ?ho ?hx ?hy ?_); (case hgd | ho | hx | hy => rfl); (intro w7 B7 o7); replace B7 : Blk w7 b3 ((⟨3, epoch, 0, nonce, tag, ⟨#[]⟩, 0, 0, Sld.zero, ToldD.zero, Rcp.zero⟩ : MsgD).cells (.slice none 0 0) (.slice none 0 0)) 39 := B7; have A7 := o7.blk A6 (by have := A2.lt; omega); have R7 := o7.blk R6 (by have := R3.lt; have := B2.lt; omega); have a7_0 := A7.cell (i := 0) rfl; have a7_3 := A7.cell (i := 3) rfl; have a7_1 := A7.cell (i := 1) rfl; have a7_4 := A7.cell (i := 4) rfl)
    | ((with_reducible refine wpList_load_met 39 (.tmp 3) b3 0 ((⟨3, epoch, 0, nonce, tag, ⟨#[]⟩, 0, 0, Sld.zero, ToldD.zero, Rcp.zero⟩ : MsgD).cells (.slice none 0 0) (.slice none 0 0)) _ (some 89) (B7.range) Tryz.underlying39 rfl sizeMsg ?hg ?ho ?hds ?hx ?_); (case ho | hg | hds | hx => rfl))
    | ((with_reducible refine wpList_store_new 39 (.tmp 2) (.tmp 89) b2 mzero ((⟨3, epoch, 0, nonce, tag, ⟨#[]⟩, 0, 0, Sld.zero, ToldD.zero, Rcp.zero⟩ : MsgD).cells (.slice none 0 0) (.slice none 0 0)) 39 R7 rfl sizeMsg (mcells_one nil_shape nil_shape) ?hgd ?ho ?hx ?hy ?_); (case hgd | ho | hx | hy => rfl); (intro w99 B99 o99))
    | fail)
  (try simp only [Exit.inBlock, Exit.then])
  refine bodyPost_ret (results_cell1 rfl _ _ B99.range rfl Tryz.underlying39 rfl sizeMsg) rfl ⟨rfl, o99.below ((o7.below ((o6.below ((o5.below ((o4.below (((e1.mono l1).trans (e2.mono (by have := e1.size; omega))).trans (e3.mono (by have := e1.size; have := e2.size; omega))) (by have := e1.size; have := e2.size; omega))) (by have := e1.size; have := e2.size; omega))) (by have := e1.size; have := e2.size; omega))) (by have := e1.size; have := e2.size; omega))) (by have := e1.size; omega)⟩
set_option maxRecDepth 100000 in
set_option maxHeartbeats 8000000 in
theorem bare_4 (epoch seq : Int) (nonce tag last : ByteArray) (askE askL : Int) (sld : Sld) (told : ToldD) (rcp : Rcp) (u l : Value) (w : World) :
    Calls Tryz.prog 96 #[(⟨4, epoch, seq, nonce, tag, last, askE, askL, sld, told, rcp⟩ : MsgD).v u l] w fun e w' => e = .returned ((⟨4, epoch, seq, nonce, tag, last, 0, 0, Sld.zero, ToldD.zero, Rcp.zero⟩ : MsgD).v (.slice none 0 0) (.slice none 0 0)) ∧ Below w.heap.size w w' := by
  go_enter Tryz.func96, Tryz.ntmps96
  go_wp2_with (first
    | ((with_reducible refine wpList_box_new 39 (.tmp 0) ((⟨4, epoch, seq, nonce, tag, last, askE, askL, sld, told, rcp⟩ : MsgD).cells u l) (some 1) ?hgd ?ho ?hd ?hx ?_); (case hgd | ho | hd | hx => rfl); (intro b1 w1 l1 B1 e1 z1))
    | ((with_reducible refine wpList_alloc_new 39 mzero zeroMsgB (some 2) ?hgd ?ho ?hd ?_); (case hgd | ho | hd => rfl); (intro b2 w2 l2 B2 e2 z2); have A2 := B1.below e2 (Nat.lt_of_lt_of_le B1.lt l2); have a2_0 := A2.cell (i := 0) rfl)
    | ((with_reducible refine wpList_build_eq 39 ?parts ((⟨4, 0, 0, ⟨#[]⟩, ⟨#[]⟩, ⟨#[]⟩, 0, 0, Sld.zero, ToldD.zero, Rcp.zero⟩ : MsgD).cells (.slice none 0 0) (.slice none 0 0)) ?hg ?ho ?hf ?_); (case hg | ho => rfl); (case hf => exact builtMsg _))
    | ((with_reducible refine wpList_alloc_new 39 mzero zeroMsgB (some 3) ?hgd ?ho ?hd ?_); (case hgd | ho | hd => rfl); (intro b3 w3 l3 B3 e3 z3); have A3 := A2.below e3 (Nat.lt_of_lt_of_le A2.lt l3); have R3 := B2.below e3 (Nat.lt_of_lt_of_le B2.lt l3))
    | ((with_reducible refine wpList_store_new 39 (.tmp 3) (.tmp 6) b3 mzero ((⟨4, 0, 0, ⟨#[]⟩, ⟨#[]⟩, ⟨#[]⟩, 0, 0, Sld.zero, ToldD.zero, Rcp.zero⟩ : MsgD).cells (.slice none 0 0) (.slice none 0 0)) 39 B3 rfl sizeMsg (mcells_one nil_shape nil_shape) ?hgd ?ho ?hx ?hy ?_); (case hgd | ho | hx | hy => rfl); (intro w4 B4 o4); have A4 := o4.blk A3 (by have := A2.lt; omega); have R4 := o4.blk R3 (by have := R3.lt; have := B2.lt; omega); have a4_0 := A4.cell (i := 0) rfl; have a4_3 := A4.cell (i := 3) rfl; have a4_1 := A4.cell (i := 1) rfl; have a4_4 := A4.cell (i := 4) rfl; have a4_2 := A4.cell (i := 2) rfl; have a4_5 := A4.cell (i := 5) rfl)
    | ((with_reducible refine wpList_store_at 9 (.tmp 12) (.tmp 11) b3 3 (.string nonce) _ _ B4 (Nat.le_of_ble_eq_true rfl) (by kernel_rfl) rfl ?hgd ?ho ?hx ?hy ?_); (case hgd | ho | hx | hy => rfl); (intro w5 B5 o5); replace B5 : Blk w5 b3 ((⟨4, 0, 0, nonce, ⟨#[]⟩, ⟨#[]⟩, 0, 0, Sld.zero, ToldD.zero, Rcp.zero⟩ : MsgD).cells (.slice none 0 0) (.slice none 0 0)) 39 := B5; have A5 := o5.blk A4 (by have := A2.lt; omega); have R5 := o5.blk R4 (by have := R3.lt; have := B2.lt; omega); have a5_0 := A5.cell (i := 0) rfl; have a5_3 := A5.cell (i := 3) rfl; have a5_1 := A5.cell (i := 1) rfl; have a5_4 := A5.cell (i := 4) rfl; have a5_2 := A5.cell (i := 2) rfl; have a5_5 := A5.cell (i := 5) rfl)
    | ((with_reducible refine wpList_store_at 3 (.tmp 28) (.tmp 27) b3 1 (.int .i64 epoch) _ _ B5 (Nat.le_of_ble_eq_true rfl) (by kernel_rfl) rfl ?hgd ?ho ?hx ?hy ?_); (case hgd | ho | hx | hy => rfl); (intro w6 B6 o6); replace B6 : Blk w6 b3 ((⟨4, epoch, 0, nonce, ⟨#[]⟩, ⟨#[]⟩, 0, 0, Sld.zero, ToldD.zero, Rcp.zero⟩ : MsgD).cells (.slice none 0 0) (.slice none 0 0)) 39 := B6; have A6 := o6.blk A5 (by have := A2.lt; omega); have R6 := o6.blk R5 (by have := R3.lt; have := B2.lt; omega); have a6_0 := A6.cell (i := 0) rfl; have a6_3 := A6.cell (i := 3) rfl; have a6_1 := A6.cell (i := 1) rfl; have a6_4 := A6.cell (i := 4) rfl; have a6_2 := A6.cell (i := 2) rfl; have a6_5 := A6.cell (i := 5) rfl)
    | ((with_reducible refine wpList_store_at 9 (.tmp 39) (.tmp 38) b3 4 (.string tag) _ _ B6 (Nat.le_of_ble_eq_true rfl) (by kernel_rfl) rfl ?hgd ?ho ?hx ?hy ?_); (case hgd | ho | hx | hy => rfl); (intro w7 B7 o7); replace B7 : Blk w7 b3 ((⟨4, epoch, 0, nonce, tag, ⟨#[]⟩, 0, 0, Sld.zero, ToldD.zero, Rcp.zero⟩ : MsgD).cells (.slice none 0 0) (.slice none 0 0)) 39 := B7; have A7 := o7.blk A6 (by have := A2.lt; omega); have R7 := o7.blk R6 (by have := R3.lt; have := B2.lt; omega); have a7_0 := A7.cell (i := 0) rfl; have a7_3 := A7.cell (i := 3) rfl; have a7_1 := A7.cell (i := 1) rfl; have a7_4 := A7.cell (i := 4) rfl; have a7_2 := A7.cell (i := 2) rfl; have a7_5 := A7.cell (i := 5) rfl)
    | ((with_reducible refine wpList_store_at 3 (.tmp 50) (.tmp 49) b3 2 (.int .i64 seq) _ _ B7 (Nat.le_of_ble_eq_true rfl) (by kernel_rfl) rfl ?hgd ?ho ?hx ?hy ?_); (case hgd | ho | hx | hy => rfl); (intro w8 B8 o8); replace B8 : Blk w8 b3 ((⟨4, epoch, seq, nonce, tag, ⟨#[]⟩, 0, 0, Sld.zero, ToldD.zero, Rcp.zero⟩ : MsgD).cells (.slice none 0 0) (.slice none 0 0)) 39 := B8; have A8 := o8.blk A7 (by have := A2.lt; omega); have R8 := o8.blk R7 (by have := R3.lt; have := B2.lt; omega); have a8_0 := A8.cell (i := 0) rfl; have a8_3 := A8.cell (i := 3) rfl; have a8_1 := A8.cell (i := 1) rfl; have a8_4 := A8.cell (i := 4) rfl; have a8_2 := A8.cell (i := 2) rfl; have a8_5 := A8.cell (i := 5) rfl)
    | ((with_reducible refine wpList_store_at 9 (.tmp 56) (.tmp 55) b3 5 (.string last) _ _ B8 (Nat.le_of_ble_eq_true rfl) (by kernel_rfl) rfl ?hgd ?ho ?hx ?hy ?_); (case hgd | ho | hx | hy => rfl); (intro w9 B9 o9); replace B9 : Blk w9 b3 ((⟨4, epoch, seq, nonce, tag, last, 0, 0, Sld.zero, ToldD.zero, Rcp.zero⟩ : MsgD).cells (.slice none 0 0) (.slice none 0 0)) 39 := B9; have A9 := o9.blk A8 (by have := A2.lt; omega); have R9 := o9.blk R8 (by have := R3.lt; have := B2.lt; omega); have a9_0 := A9.cell (i := 0) rfl; have a9_3 := A9.cell (i := 3) rfl; have a9_1 := A9.cell (i := 1) rfl; have a9_4 := A9.cell (i := 4) rfl; have a9_2 := A9.cell (i := 2) rfl; have a9_5 := A9.cell (i := 5) rfl)
    | ((with_reducible refine wpList_load_met 39 (.tmp 3) b3 0 ((⟨4, epoch, seq, nonce, tag, last, 0, 0, Sld.zero, ToldD.zero, Rcp.zero⟩ : MsgD).cells (.slice none 0 0) (.slice none 0 0)) _ (some 89) (B9.range) Tryz.underlying39 rfl sizeMsg ?hg ?ho ?hds ?hx ?_); (case ho | hg | hds | hx => rfl))
    | ((with_reducible refine wpList_store_new 39 (.tmp 2) (.tmp 89) b2 mzero ((⟨4, epoch, seq, nonce, tag, last, 0, 0, Sld.zero, ToldD.zero, Rcp.zero⟩ : MsgD).cells (.slice none 0 0) (.slice none 0 0)) 39 R9 rfl sizeMsg (mcells_one nil_shape nil_shape) ?hgd ?ho ?hx ?hy ?_); (case hgd | ho | hx | hy => rfl); (intro w99 B99 o99))
    | fail)
  (try simp only [Exit.inBlock, Exit.then])
  refine bodyPost_ret (results_cell1 rfl _ _ B99.range rfl Tryz.underlying39 rfl sizeMsg) rfl ⟨rfl, o99.below ((o9.below ((o8.below ((o7.below ((o6.below ((o5.below ((o4.below (((e1.mono l1).trans (e2.mono (by have := e1.size; omega))).trans (e3.mono (by have := e1.size; have := e2.size; omega))) (by have := e1.size; have := e2.size; omega))) (by have := e1.size; have := e2.size; omega))) (by have := e1.size; have := e2.size; omega))) (by have := e1.size; have := e2.size; omega))) (by have := e1.size; have := e2.size; omega))) (by have := e1.size; have := e2.size; omega))) (by have := e1.size; omega)⟩
set_option maxRecDepth 100000 in
set_option maxHeartbeats 8000000 in
theorem bare_5 (epoch seq : Int) (nonce tag last : ByteArray) (askE askL : Int) (sld : Sld) (told : ToldD) (rcp : Rcp) (u l : Value) (w : World) :
    Calls Tryz.prog 96 #[(⟨5, epoch, seq, nonce, tag, last, askE, askL, sld, told, rcp⟩ : MsgD).v u l] w fun e w' => e = .returned ((⟨5, 0, seq, nonce, ⟨#[]⟩, ⟨#[]⟩, 0, 0, Sld.zero, ToldD.zero, Rcp.zero⟩ : MsgD).v (.slice none 0 0) (.slice none 0 0)) ∧ Below w.heap.size w w' := by
  go_enter Tryz.func96, Tryz.ntmps96
  go_wp2_with (first
    | ((with_reducible refine wpList_box_new 39 (.tmp 0) ((⟨5, epoch, seq, nonce, tag, last, askE, askL, sld, told, rcp⟩ : MsgD).cells u l) (some 1) ?hgd ?ho ?hd ?hx ?_); (case hgd | ho | hd | hx => rfl); (intro b1 w1 l1 B1 e1 z1))
    | ((with_reducible refine wpList_alloc_new 39 mzero zeroMsgB (some 2) ?hgd ?ho ?hd ?_); (case hgd | ho | hd => rfl); (intro b2 w2 l2 B2 e2 z2); have A2 := B1.below e2 (Nat.lt_of_lt_of_le B1.lt l2); have a2_0 := A2.cell (i := 0) rfl)
    | ((with_reducible refine wpList_build_eq 39 ?parts ((⟨5, 0, 0, ⟨#[]⟩, ⟨#[]⟩, ⟨#[]⟩, 0, 0, Sld.zero, ToldD.zero, Rcp.zero⟩ : MsgD).cells (.slice none 0 0) (.slice none 0 0)) ?hg ?ho ?hf ?_); (case hg | ho => rfl); (case hf => exact builtMsg _))
    | ((with_reducible refine wpList_alloc_new 39 mzero zeroMsgB (some 3) ?hgd ?ho ?hd ?_); (case hgd | ho | hd => rfl); (intro b3 w3 l3 B3 e3 z3); have A3 := A2.below e3 (Nat.lt_of_lt_of_le A2.lt l3); have R3 := B2.below e3 (Nat.lt_of_lt_of_le B2.lt l3))
    | ((with_reducible refine wpList_store_new 39 (.tmp 3) (.tmp 6) b3 mzero ((⟨5, 0, 0, ⟨#[]⟩, ⟨#[]⟩, ⟨#[]⟩, 0, 0, Sld.zero, ToldD.zero, Rcp.zero⟩ : MsgD).cells (.slice none 0 0) (.slice none 0 0)) 39 B3 rfl sizeMsg (mcells_one nil_shape nil_shape) ?hgd ?ho ?hx ?hy ?_); (case hgd | ho | hx | hy => rfl); (intro w4 B4 o4); have A4 := o4.blk A3 (by have := A2.lt; omega); have R4 := o4.blk R3 (by have := R3.lt; have := B2.lt; omega); have a4_0 := A4.cell (i := 0) rfl; have a4_3 := A4.cell (i := 3) rfl; have a4_2 := A4.cell (i := 2) rfl)
    | ((with_reducible refine wpList_store_at 9 (.tmp 12) (.tmp 11) b3 3 (.string nonce) _ _ B4 (Nat.le_of_ble_eq_true rfl) (by kernel_rfl) rfl ?hgd ?ho ?hx ?hy ?_); (case hgd | ho | hx | hy => rfl); (intro w5 B5 o5); replace B5 : Blk w5 b3 ((⟨5, 0, 0, nonce, ⟨#[]⟩, ⟨#[]⟩, 0, 0, Sld.zero, ToldD.zero, Rcp.zero⟩ : MsgD).cells (.slice none 0 0) (.slice none 0 0)) 39 := B5; have A5 := o5.blk A4 (by have := A2.lt; omega); have R5 := o5.blk R4 (by have := R3.lt; have := B2.lt; omega); have a5_0 := A5.cell (i := 0) rfl; have a5_3 := A5.cell (i := 3) rfl; have a5_2 := A5.cell (i := 2) rfl)
    | ((with_reducible refine wpList_store_at 3 (.tmp 50) (.tmp 49) b3 2 (.int .i64 seq) _ _ B5 (Nat.le_of_ble_eq_true rfl) (by kernel_rfl) rfl ?hgd ?ho ?hx ?hy ?_); (case hgd | ho | hx | hy => rfl); (intro w6 B6 o6); replace B6 : Blk w6 b3 ((⟨5, 0, seq, nonce, ⟨#[]⟩, ⟨#[]⟩, 0, 0, Sld.zero, ToldD.zero, Rcp.zero⟩ : MsgD).cells (.slice none 0 0) (.slice none 0 0)) 39 := B6; have A6 := o6.blk A5 (by have := A2.lt; omega); have R6 := o6.blk R5 (by have := R3.lt; have := B2.lt; omega); have a6_0 := A6.cell (i := 0) rfl; have a6_3 := A6.cell (i := 3) rfl; have a6_2 := A6.cell (i := 2) rfl)
    | ((with_reducible refine wpList_load_met 39 (.tmp 3) b3 0 ((⟨5, 0, seq, nonce, ⟨#[]⟩, ⟨#[]⟩, 0, 0, Sld.zero, ToldD.zero, Rcp.zero⟩ : MsgD).cells (.slice none 0 0) (.slice none 0 0)) _ (some 89) (B6.range) Tryz.underlying39 rfl sizeMsg ?hg ?ho ?hds ?hx ?_); (case ho | hg | hds | hx => rfl))
    | ((with_reducible refine wpList_store_new 39 (.tmp 2) (.tmp 89) b2 mzero ((⟨5, 0, seq, nonce, ⟨#[]⟩, ⟨#[]⟩, 0, 0, Sld.zero, ToldD.zero, Rcp.zero⟩ : MsgD).cells (.slice none 0 0) (.slice none 0 0)) 39 R6 rfl sizeMsg (mcells_one nil_shape nil_shape) ?hgd ?ho ?hx ?hy ?_); (case hgd | ho | hx | hy => rfl); (intro w99 B99 o99))
    | fail)
  (try simp only [Exit.inBlock, Exit.then])
  refine bodyPost_ret (results_cell1 rfl _ _ B99.range rfl Tryz.underlying39 rfl sizeMsg) rfl ⟨rfl, o99.below ((o6.below ((o5.below ((o4.below (((e1.mono l1).trans (e2.mono (by have := e1.size; omega))).trans (e3.mono (by have := e1.size; have := e2.size; omega))) (by have := e1.size; have := e2.size; omega))) (by have := e1.size; have := e2.size; omega))) (by have := e1.size; have := e2.size; omega))) (by have := e1.size; omega)⟩
set_option maxRecDepth 100000 in
set_option maxHeartbeats 8000000 in
theorem bare_6 (epoch seq : Int) (nonce tag last : ByteArray) (askE askL : Int) (sld : Sld) (told : ToldD) (rcp : Rcp) (u l : Value) (w : World) :
    Calls Tryz.prog 96 #[(⟨6, epoch, seq, nonce, tag, last, askE, askL, sld, told, rcp⟩ : MsgD).v u l] w fun e w' => e = .returned ((⟨6, 0, seq, nonce, ⟨#[]⟩, ⟨#[]⟩, 0, 0, sld, ToldD.zero, Rcp.zero⟩ : MsgD).v (.slice none 0 0) (.slice none 0 0)) ∧ Below w.heap.size w w' := by
  go_enter Tryz.func96, Tryz.ntmps96
  go_wp2_with (first
    | ((with_reducible refine wpList_box_new 39 (.tmp 0) ((⟨6, epoch, seq, nonce, tag, last, askE, askL, sld, told, rcp⟩ : MsgD).cells u l) (some 1) ?hgd ?ho ?hd ?hx ?_); (case hgd | ho | hd | hx => rfl); (intro b1 w1 l1 B1 e1 z1))
    | ((with_reducible refine wpList_alloc_new 39 mzero zeroMsgB (some 2) ?hgd ?ho ?hd ?_); (case hgd | ho | hd => rfl); (intro b2 w2 l2 B2 e2 z2); have A2 := B1.below e2 (Nat.lt_of_lt_of_le B1.lt l2); have a2_0 := A2.cell (i := 0) rfl)
    | ((with_reducible refine wpList_build_eq 39 ?parts ((⟨6, 0, 0, ⟨#[]⟩, ⟨#[]⟩, ⟨#[]⟩, 0, 0, Sld.zero, ToldD.zero, Rcp.zero⟩ : MsgD).cells (.slice none 0 0) (.slice none 0 0)) ?hg ?ho ?hf ?_); (case hg | ho => rfl); (case hf => exact builtMsg _))
    | ((with_reducible refine wpList_alloc_new 39 mzero zeroMsgB (some 3) ?hgd ?ho ?hd ?_); (case hgd | ho | hd => rfl); (intro b3 w3 l3 B3 e3 z3); have A3 := A2.below e3 (Nat.lt_of_lt_of_le A2.lt l3); have R3 := B2.below e3 (Nat.lt_of_lt_of_le B2.lt l3))
    | ((with_reducible refine wpList_store_new 39 (.tmp 3) (.tmp 6) b3 mzero ((⟨6, 0, 0, ⟨#[]⟩, ⟨#[]⟩, ⟨#[]⟩, 0, 0, Sld.zero, ToldD.zero, Rcp.zero⟩ : MsgD).cells (.slice none 0 0) (.slice none 0 0)) 39 B3 rfl sizeMsg (mcells_one nil_shape nil_shape) ?hgd ?ho ?hx ?hy ?_); (case hgd | ho | hx | hy => rfl); (intro w4 B4 o4); have A4 := o4.blk A3 (by have := A2.lt; omega); have R4 := o4.blk R3 (by have := R3.lt; have := B2.lt; omega); have a4_0 := A4.cell (i := 0) rfl; have a4_3 := A4.cell (i := 3) rfl; have a4_2 := A4.cell (i := 2) rfl)
    | ((with_reducible refine wpList_store_at 9 (.tmp 12) (.tmp 11) b3 3 (.string nonce) _ _ B4 (Nat.le_of_ble_eq_true rfl) (by kernel_rfl) rfl ?hgd ?ho ?hx ?hy ?_); (case hgd | ho | hx | hy => rfl); (intro w5 B5 o5); replace B5 : Blk w5 b3 ((⟨6, 0, 0, nonce, ⟨#[]⟩, ⟨#[]⟩, 0, 0, Sld.zero, ToldD.zero, Rcp.zero⟩ : MsgD).cells (.slice none 0 0) (.slice none 0 0)) 39 := B5; have A5 := o5.blk A4 (by have := A2.lt; omega); have R5 := o5.blk R4 (by have := R3.lt; have := B2.lt; omega); have a5_0 := A5.cell (i := 0) rfl; have a5_3 := A5.cell (i := 3) rfl; have a5_2 := A5.cell (i := 2) rfl)
    | ((with_reducible refine wpList_store_at 3 (.tmp 50) (.tmp 49) b3 2 (.int .i64 seq) _ _ B5 (Nat.le_of_ble_eq_true rfl) (by kernel_rfl) rfl ?hgd ?ho ?hx ?hy ?_); (case hgd | ho | hx | hy => rfl); (intro w6 B6 o6); replace B6 : Blk w6 b3 ((⟨6, 0, seq, nonce, ⟨#[]⟩, ⟨#[]⟩, 0, 0, Sld.zero, ToldD.zero, Rcp.zero⟩ : MsgD).cells (.slice none 0 0) (.slice none 0 0)) 39 := B6; have A6 := o6.blk A5 (by have := A2.lt; omega); have R6 := o6.blk R5 (by have := R3.lt; have := B2.lt; omega); have a6_0 := A6.cell (i := 0) rfl; have a6_3 := A6.cell (i := 3) rfl; have a6_2 := A6.cell (i := 2) rfl)
    | ((with_reducible refine wpList_load_met 27 (.tmp 60) b1 8 sld.cells _ (some 61) ((A6.ext (MsgD.sldAt (⟨6, epoch, seq, nonce, tag, last, askE, askL, sld, told, rcp⟩ : MsgD) u l)).part (off := 8) rfl) Tryz.underlying27 rfl rsizeSld' ?hg ?ho ?hds ?hx ?_); (case ho | hg | hds | hx => rfl))
    | ((with_reducible refine wpList_store_part 27 (.tmp 62) (.tmp 61) b3 8 sld.cells _ _ B6 (Nat.le_of_ble_eq_true rfl) rsizeSld' sldcells_one ?hgd ?ho ?hx ?hy ?_); (case hgd | ho | hx | hy => rfl); (intro w7 B7 o7); replace B7 : Blk w7 b3 ((⟨6, 0, seq, nonce, ⟨#[]⟩, ⟨#[]⟩, 0, 0, sld, ToldD.zero, Rcp.zero⟩ : MsgD).cells (.slice none 0 0) (.slice none 0 0)) 39 := B7; have A7 := o7.blk A6 (by have := A2.lt; omega); have R7 := o7.blk R6 (by have := R3.lt; have := B2.lt; omega); have a7_0 := A7.cell (i := 0) rfl; have a7_3 := A7.cell (i := 3) rfl; have a7_2 := A7.cell (i := 2) rfl)
    | ((with_reducible refine wpList_load_met 39 (.tmp 3) b3 0 ((⟨6, 0, seq, nonce, ⟨#[]⟩, ⟨#[]⟩, 0, 0, sld, ToldD.zero, Rcp.zero⟩ : MsgD).cells (.slice none 0 0) (.slice none 0 0)) _ (some 89) (B7.range) Tryz.underlying39 rfl sizeMsg ?hg ?ho ?hds ?hx ?_); (case ho | hg | hds | hx => rfl))
    | ((with_reducible refine wpList_store_new 39 (.tmp 2) (.tmp 89) b2 mzero ((⟨6, 0, seq, nonce, ⟨#[]⟩, ⟨#[]⟩, 0, 0, sld, ToldD.zero, Rcp.zero⟩ : MsgD).cells (.slice none 0 0) (.slice none 0 0)) 39 R7 rfl sizeMsg (mcells_one nil_shape nil_shape) ?hgd ?ho ?hx ?hy ?_); (case hgd | ho | hx | hy => rfl); (intro w99 B99 o99))
    | fail)
  (try simp only [Exit.inBlock, Exit.then])
  refine bodyPost_ret (results_cell1 rfl _ _ B99.range rfl Tryz.underlying39 rfl sizeMsg) rfl ⟨rfl, o99.below ((o7.below ((o6.below ((o5.below ((o4.below (((e1.mono l1).trans (e2.mono (by have := e1.size; omega))).trans (e3.mono (by have := e1.size; have := e2.size; omega))) (by have := e1.size; have := e2.size; omega))) (by have := e1.size; have := e2.size; omega))) (by have := e1.size; have := e2.size; omega))) (by have := e1.size; have := e2.size; omega))) (by have := e1.size; omega)⟩
set_option maxRecDepth 100000 in
set_option maxHeartbeats 8000000 in
theorem bare_7 (epoch seq : Int) (nonce tag last : ByteArray) (askE askL : Int) (sld : Sld) (told : ToldD) (rcp : Rcp) (u l : Value) (w : World) :
    Calls Tryz.prog 96 #[(⟨7, epoch, seq, nonce, tag, last, askE, askL, sld, told, rcp⟩ : MsgD).v u l] w fun e w' => e = .returned ((⟨7, 0, 0, nonce, ⟨#[]⟩, ⟨#[]⟩, askE, askL, Sld.zero, ToldD.zero, Rcp.zero⟩ : MsgD).v (.slice none 0 0) (.slice none 0 0)) ∧ Below w.heap.size w w' := by
  go_enter Tryz.func96, Tryz.ntmps96
  go_wp2_with (first
    | ((with_reducible refine wpList_box_new 39 (.tmp 0) ((⟨7, epoch, seq, nonce, tag, last, askE, askL, sld, told, rcp⟩ : MsgD).cells u l) (some 1) ?hgd ?ho ?hd ?hx ?_); (case hgd | ho | hd | hx => rfl); (intro b1 w1 l1 B1 e1 z1))
    | ((with_reducible refine wpList_alloc_new 39 mzero zeroMsgB (some 2) ?hgd ?ho ?hd ?_); (case hgd | ho | hd => rfl); (intro b2 w2 l2 B2 e2 z2); have A2 := B1.below e2 (Nat.lt_of_lt_of_le B1.lt l2); have a2_0 := A2.cell (i := 0) rfl)
    | ((with_reducible refine wpList_build_eq 39 ?parts ((⟨7, 0, 0, ⟨#[]⟩, ⟨#[]⟩, ⟨#[]⟩, 0, 0, Sld.zero, ToldD.zero, Rcp.zero⟩ : MsgD).cells (.slice none 0 0) (.slice none 0 0)) ?hg ?ho ?hf ?_); (case hg | ho => rfl); (case hf => exact builtMsg _))
    | ((with_reducible refine wpList_alloc_new 39 mzero zeroMsgB (some 3) ?hgd ?ho ?hd ?_); (case hgd | ho | hd => rfl); (intro b3 w3 l3 B3 e3 z3); have A3 := A2.below e3 (Nat.lt_of_lt_of_le A2.lt l3); have R3 := B2.below e3 (Nat.lt_of_lt_of_le B2.lt l3))
    | ((with_reducible refine wpList_store_new 39 (.tmp 3) (.tmp 6) b3 mzero ((⟨7, 0, 0, ⟨#[]⟩, ⟨#[]⟩, ⟨#[]⟩, 0, 0, Sld.zero, ToldD.zero, Rcp.zero⟩ : MsgD).cells (.slice none 0 0) (.slice none 0 0)) 39 B3 rfl sizeMsg (mcells_one nil_shape nil_shape) ?hgd ?ho ?hx ?hy ?_); (case hgd | ho | hx | hy => rfl); (intro w4 B4 o4); have A4 := o4.blk A3 (by have := A2.lt; omega); have R4 := o4.blk R3 (by have := R3.lt; have := B2.lt; omega); have a4_0 := A4.cell (i := 0) rfl; have a4_3 := A4.cell (i := 3) rfl)
    | ((with_reducible refine wpList_store_at 9 (.tmp 12) (.tmp 11) b3 3 (.string nonce) _ _ B4 (Nat.le_of_ble_eq_true rfl) (by kernel_rfl) rfl ?hgd ?ho ?hx ?hy ?_); (case hgd | ho | hx | hy => rfl); (intro w5 B5 o5); replace B5 : Blk w5 b3 ((⟨7, 0, 0, nonce, ⟨#[]⟩, ⟨#[]⟩, 0, 0, Sld.zero, ToldD.zero, Rcp.zero⟩ : MsgD).cells (.slice none 0 0) (.slice none 0 0)) 39 := B5; have A5 := o5.blk A4 (by have := A2.lt; omega); have R5 := o5.blk R4 (by have := R3.lt; have := B2.lt; omega); have a5_0 := A5.cell (i := 0) rfl; have a5_3 := A5.cell (i := 3) rfl)
    | ((with_reducible refine wpList_load_met 23 (.tmp 66) b1 6 [.int .i64 askE, .int .i64 askL] _ (some 67) ((A5.ext (MsgD.askAt (⟨7, epoch, seq, nonce, tag, last, askE, askL, sld, told, rcp⟩ : MsgD) u l)).part (off := 6) rfl) Tryz.underlying23 rfl rsizeAsk ?hg ?ho ?hds ?hx ?_); (case ho | hg | hds | hx => rfl))
    | ((with_reducible refine wpList_store_part 23 (.tmp 68) (.tmp 67) b3 6 [.int .i64 askE, .int .i64 askL] _ _ B5 (Nat.le_of_ble_eq_true rfl) rsizeAsk (ask_one _ _) ?hgd ?ho ?hx ?hy ?_); (case hgd | ho | hx | hy => rfl); (intro w6 B6 o6); replace B6 : Blk w6 b3 ((⟨7, 0, 0, nonce, ⟨#[]⟩, ⟨#[]⟩, askE, askL, Sld.zero, ToldD.zero, Rcp.zero⟩ : MsgD).cells (.slice none 0 0) (.slice none 0 0)) 39 := B6; have A6 := o6.blk A5 (by have := A2.lt; omega); have R6 := o6.blk R5 (by have := R3.lt; have := B2.lt; omega); have a6_0 := A6.cell (i := 0) rfl; have a6_3 := A6.cell (i := 3) rfl)
    | ((with_reducible refine wpList_load_met 39 (.tmp 3) b3 0 ((⟨7, 0, 0, nonce, ⟨#[]⟩, ⟨#[]⟩, askE, askL, Sld.zero, ToldD.zero, Rcp.zero⟩ : MsgD).cells (.slice none 0 0) (.slice none 0 0)) _ (some 89) (B6.range) Tryz.underlying39 rfl sizeMsg ?hg ?ho ?hds ?hx ?_); (case ho | hg | hds | hx => rfl))
    | ((with_reducible refine wpList_store_new 39 (.tmp 2) (.tmp 89) b2 mzero ((⟨7, 0, 0, nonce, ⟨#[]⟩, ⟨#[]⟩, askE, askL, Sld.zero, ToldD.zero, Rcp.zero⟩ : MsgD).cells (.slice none 0 0) (.slice none 0 0)) 39 R6 rfl sizeMsg (mcells_one nil_shape nil_shape) ?hgd ?ho ?hx ?hy ?_); (case hgd | ho | hx | hy => rfl); (intro w99 B99 o99))
    | fail)
  (try simp only [Exit.inBlock, Exit.then])
  refine bodyPost_ret (results_cell1 rfl _ _ B99.range rfl Tryz.underlying39 rfl sizeMsg) rfl ⟨rfl, o99.below ((o6.below ((o5.below ((o4.below (((e1.mono l1).trans (e2.mono (by have := e1.size; omega))).trans (e3.mono (by have := e1.size; have := e2.size; omega))) (by have := e1.size; have := e2.size; omega))) (by have := e1.size; have := e2.size; omega))) (by have := e1.size; have := e2.size; omega))) (by have := e1.size; omega)⟩
set_option maxRecDepth 100000 in
set_option maxHeartbeats 8000000 in
theorem bare_8t (epoch seq : Int) (nonce tag last : ByteArray) (askE askL : Int) (sld : Sld) (tE tL : Int) (tF : Bool) (tA : Int) (tH tB : LeafD) (tU tV : List ByteArray) (tS : Int) (tC : ByteArray) (rcp : Rcp) (u l : Value) (w : World) (hsu : ∃ (p : Option Addr) (c : Nat), u = .slice p tU.length c) (hsl : ∃ (p : Option Addr) (c : Nat), l = .slice p tV.length c):
    Calls Tryz.prog 96 #[(⟨8, epoch, seq, nonce, tag, last, askE, askL, sld, (⟨tE, tL, true, tF, tA, tH, tB, tU, tV, tS, tC⟩ : ToldD), rcp⟩ : MsgD).v u l] w fun e w' => e = .returned ((⟨8, 0, 0, nonce, ⟨#[]⟩, ⟨#[]⟩, 0, 0, Sld.zero, (⟨tE, tL, true, false, 0, LeafD.zero, LeafD.zero, [], [], 0, ⟨#[]⟩⟩ : ToldD), Rcp.zero⟩ : MsgD).v (.slice none 0 0) (.slice none 0 0)) ∧ Below w.heap.size w w' := by
  go_enter Tryz.func96, Tryz.ntmps96
  go_wp2_with (first
    | ((with_reducible refine wpList_box_new 39 (.tmp 0) ((⟨8, epoch, seq, nonce, tag, last, askE, askL, sld, (⟨tE, tL, true, tF, tA, tH, tB, tU, tV, tS, tC⟩ : ToldD), rcp⟩ : MsgD).cells u l) (some 1) ?hgd ?ho ?hd ?hx ?_); (case hgd | ho | hd | hx => rfl); (intro b1 w1 l1 B1 e1 z1))
    | ((with_reducible refine wpList_alloc_new 39 mzero zeroMsgB (some 2) ?hgd ?ho ?hd ?_); (case hgd | ho | hd => rfl); (intro b2 w2 l2 B2 e2 z2); have A2 := B1.below e2 (Nat.lt_of_lt_of_le B1.lt l2); have a2_0 := A2.cell (i := 0) rfl)
    | ((with_reducible refine wpList_build_eq 39 ?parts ((⟨8, 0, 0, ⟨#[]⟩, ⟨#[]⟩, ⟨#[]⟩, 0, 0, Sld.zero, ToldD.zero, Rcp.zero⟩ : MsgD).cells (.slice none 0 0) (.slice none 0 0)) ?hg ?ho ?hf ?_); (case hg | ho => rfl); (case hf => exact builtMsg _))
    | ((with_reducible refine wpList_alloc_new 39 mzero zeroMsgB (some 3) ?hgd ?ho ?hd ?_); (case hgd | ho | hd => rfl); (intro b3 w3 l3 B3 e3 z3); have A3 := A2.below e3 (Nat.lt_of_lt_of_le A2.lt l3); have R3 := B2.below e3 (Nat.lt_of_lt_of_le B2.lt l3))
    | ((with_reducible refine wpList_store_new 39 (.tmp 3) (.tmp 6) b3 mzero ((⟨8, 0, 0, ⟨#[]⟩, ⟨#[]⟩, ⟨#[]⟩, 0, 0, Sld.zero, ToldD.zero, Rcp.zero⟩ : MsgD).cells (.slice none 0 0) (.slice none 0 0)) 39 B3 rfl sizeMsg (mcells_one nil_shape nil_shape) ?hgd ?ho ?hx ?hy ?_); (case hgd | ho | hx | hy => rfl); (intro w4 B4 o4); have A4 := o4.blk A3 (by have := A2.lt; omega); have R4 := o4.blk R3 (by have := R3.lt; have := B2.lt; omega); have a4_0 := A4.cell (i := 0) rfl; have a4_3 := A4.cell (i := 3) rfl; have a4_19 := A4.cell (i := 19) rfl)
    | ((with_reducible refine wpList_store_at 9 (.tmp 12) (.tmp 11) b3 3 (.string nonce) _ _ B4 (Nat.le_of_ble_eq_true rfl) (by kernel_rfl) rfl ?hgd ?ho ?hx ?hy ?_); (case hgd | ho | hx | hy => rfl); (intro w5 B5 o5); replace B5 : Blk w5 b3 ((⟨8, 0, 0, nonce, ⟨#[]⟩, ⟨#[]⟩, 0, 0, Sld.zero, ToldD.zero, Rcp.zero⟩ : MsgD).cells (.slice none 0 0) (.slice none 0 0)) 39 := B5; have A5 := o5.blk A4 (by have := A2.lt; omega); have R5 := o5.blk R4 (by have := R3.lt; have := B2.lt; omega); have a5_0 := A5.cell (i := 0) rfl; have a5_3 := A5.cell (i := 3) rfl; have a5_19 := A5.cell (i := 19) rfl)
    | ((with_reducible refine wpList_load_met 35 (.tmp 72) b1 17 ((⟨tE, tL, true, tF, tA, tH, tB, tU, tV, tS, tC⟩ : ToldD).cells u l) _ (some 73) ((A5.ext (MsgD.toldAt (⟨8, epoch, seq, nonce, tag, last, askE, askL, sld, (⟨tE, tL, true, tF, tA, tH, tB, tU, tV, tS, tC⟩ : ToldD), rcp⟩ : MsgD) u l)).part (off := 17) rfl) Tryz.underlying35 rfl rsizeTold' ?hg ?ho ?hds ?hx ?_); (case ho | hg | hds | hx => rfl))
    | ((with_reducible refine wpList_store_part 35 (.tmp 74) (.tmp 73) b3 17 ((⟨tE, tL, true, tF, tA, tH, tB, tU, tV, tS, tC⟩ : ToldD).cells u l) _ _ B5 (Nat.le_of_ble_eq_true rfl) rsizeTold' (tcells_one hsu hsl) ?hgd ?ho ?hx ?hy ?_); (case hgd | ho | hx | hy => rfl); (intro w6 B6 o6); replace B6 : Blk w6 b3 ((⟨8, 0, 0, nonce, ⟨#[]⟩, ⟨#[]⟩, 0, 0, Sld.zero, (⟨tE, tL, true, tF, tA, tH, tB, tU, tV, tS, tC⟩ : ToldD), Rcp.zero⟩ : MsgD).cells u l) 39 := B6; have A6 := o6.blk A5 (by have := A2.lt; omega); have R6 := o6.blk R5 (by have := R3.lt; have := B2.lt; omega); have a6_0 := A6.cell (i := 0) rfl; have a6_3 := A6.cell (i := 3) rfl; have a6_19 := A6.cell (i := 19) rfl)
    | ((with_reducible refine wpList_load_met 23 (.tmp 79) b1 17 [.int .i64 tE, .int .i64 tL] _ (some 80) ((A6.ext (show (⟨8, epoch, seq, nonce, tag, last, askE, askL, sld, (⟨tE, tL, true, tF, tA, tH, tB, tU, tV, tS, tC⟩ : ToldD), rcp⟩ : MsgD).cells u l = ((⟨8, epoch, seq, nonce, tag, last, askE, askL, sld, (⟨tE, tL, true, tF, tA, tH, tB, tU, tV, tS, tC⟩ : ToldD), rcp⟩ : MsgD).cells u l).take 17 ++ [.int .i64 tE, .int .i64 tL] ++ ((⟨8, epoch, seq, nonce, tag, last, askE, askL, sld, (⟨tE, tL, true, tF, tA, tH, tB, tU, tV, tS, tC⟩ : ToldD), rcp⟩ : MsgD).cells u l).drop 19 from rfl)).part (off := 17) rfl) Tryz.underlying23 rfl rsizeAsk ?hg ?ho ?hds ?hx ?_); (case ho | hg | hds | hx => rfl))
    | ((with_reducible refine wpList_build_eq 35 ?parts2 ((⟨tE, tL, true, false, 0, LeafD.zero, LeafD.zero, [], [], 0, ⟨#[]⟩⟩ : ToldD).cells (.slice none 0 0) (.slice none 0 0)) ?hg ?ho ?hf ?_); (case hg | ho => rfl); (case hf => exact builtTold _ _))
    | ((with_reducible refine wpList_store_part 35 (.tmp 82) (.tmp 81) b3 17 ((⟨tE, tL, true, false, 0, LeafD.zero, LeafD.zero, [], [], 0, ⟨#[]⟩⟩ : ToldD).cells (.slice none 0 0) (.slice none 0 0)) _ _ B6 (Nat.le_of_ble_eq_true rfl) rsizeTold' (tcells_one nil_shape nil_shape) ?hgd ?ho ?hx ?hy ?_); (case hgd | ho | hx | hy => rfl); (intro w7 B7 o7); replace B7 : Blk w7 b3 ((⟨8, 0, 0, nonce, ⟨#[]⟩, ⟨#[]⟩, 0, 0, Sld.zero, (⟨tE, tL, true, false, 0, LeafD.zero, LeafD.zero, [], [], 0, ⟨#[]⟩⟩ : ToldD), Rcp.zero⟩ : MsgD).cells (.slice none 0 0) (.slice none 0 0)) 39 := B7; have A7 := o7.blk A6 (by have := A2.lt; omega); have R7 := o7.blk R6 (by have := R3.lt; have := B2.lt; omega); have a7_0 := A7.cell (i := 0) rfl; have a7_3 := A7.cell (i := 3) rfl; have a7_19 := A7.cell (i := 19) rfl)
    | ((with_reducible refine wpList_load_met 39 (.tmp 3) b3 0 ((⟨8, 0, 0, nonce, ⟨#[]⟩, ⟨#[]⟩, 0, 0, Sld.zero, (⟨tE, tL, true, false, 0, LeafD.zero, LeafD.zero, [], [], 0, ⟨#[]⟩⟩ : ToldD), Rcp.zero⟩ : MsgD).cells (.slice none 0 0) (.slice none 0 0)) _ (some 89) (B7.range) Tryz.underlying39 rfl sizeMsg ?hg ?ho ?hds ?hx ?_); (case ho | hg | hds | hx => rfl))
    | ((with_reducible refine wpList_store_new 39 (.tmp 2) (.tmp 89) b2 mzero ((⟨8, 0, 0, nonce, ⟨#[]⟩, ⟨#[]⟩, 0, 0, Sld.zero, (⟨tE, tL, true, false, 0, LeafD.zero, LeafD.zero, [], [], 0, ⟨#[]⟩⟩ : ToldD), Rcp.zero⟩ : MsgD).cells (.slice none 0 0) (.slice none 0 0)) 39 R7 rfl sizeMsg (mcells_one nil_shape nil_shape) ?hgd ?ho ?hx ?hy ?_); (case hgd | ho | hx | hy => rfl); (intro w99 B99 o99))
    | fail)
  (try simp only [Exit.inBlock, Exit.then])
  refine bodyPost_ret (results_cell1 rfl _ _ B99.range rfl Tryz.underlying39 rfl sizeMsg) rfl ⟨rfl, o99.below ((o7.below ((o6.below ((o5.below ((o4.below (((e1.mono l1).trans (e2.mono (by have := e1.size; omega))).trans (e3.mono (by have := e1.size; have := e2.size; omega))) (by have := e1.size; have := e2.size; omega))) (by have := e1.size; have := e2.size; omega))) (by have := e1.size; have := e2.size; omega))) (by have := e1.size; have := e2.size; omega))) (by have := e1.size; omega)⟩
set_option maxRecDepth 100000 in
set_option maxHeartbeats 8000000 in
theorem bare_8f (epoch seq : Int) (nonce tag last : ByteArray) (askE askL : Int) (sld : Sld) (tE tL : Int) (tF : Bool) (tA : Int) (tH tB : LeafD) (tU tV : List ByteArray) (tS : Int) (tC : ByteArray) (rcp : Rcp) (u l : Value) (w : World) (hsu : ∃ (p : Option Addr) (c : Nat), u = .slice p tU.length c) (hsl : ∃ (p : Option Addr) (c : Nat), l = .slice p tV.length c):
    Calls Tryz.prog 96 #[(⟨8, epoch, seq, nonce, tag, last, askE, askL, sld, (⟨tE, tL, false, tF, tA, tH, tB, tU, tV, tS, tC⟩ : ToldD), rcp⟩ : MsgD).v u l] w fun e w' => e = .returned ((⟨8, 0, 0, nonce, ⟨#[]⟩, ⟨#[]⟩, 0, 0, Sld.zero, (⟨tE, tL, false, tF, tA, tH, tB, tU, tV, tS, tC⟩ : ToldD), Rcp.zero⟩ : MsgD).v u l) ∧ Below w.heap.size w w' := by
  go_enter Tryz.func96, Tryz.ntmps96
  go_wp2_with (first
    | ((with_reducible refine wpList_box_new 39 (.tmp 0) ((⟨8, epoch, seq, nonce, tag, last, askE, askL, sld, (⟨tE, tL, false, tF, tA, tH, tB, tU, tV, tS, tC⟩ : ToldD), rcp⟩ : MsgD).cells u l) (some 1) ?hgd ?ho ?hd ?hx ?_); (case hgd | ho | hd | hx => rfl); (intro b1 w1 l1 B1 e1 z1))
    | ((with_reducible refine wpList_alloc_new 39 mzero zeroMsgB (some 2) ?hgd ?ho ?hd ?_); (case hgd | ho | hd => rfl); (intro b2 w2 l2 B2 e2 z2); have A2 := B1.below e2 (Nat.lt_of_lt_of_le B1.lt l2); have a2_0 := A2.cell (i := 0) rfl)
    | ((with_reducible refine wpList_build_eq 39 ?parts ((⟨8, 0, 0, ⟨#[]⟩, ⟨#[]⟩, ⟨#[]⟩, 0, 0, Sld.zero, ToldD.zero, Rcp.zero⟩ : MsgD).cells (.slice none 0 0) (.slice none 0 0)) ?hg ?ho ?hf ?_); (case hg | ho => rfl); (case hf => exact builtMsg _))
    | ((with_reducible refine wpList_alloc_new 39 mzero zeroMsgB (some 3) ?hgd ?ho ?hd ?_); (case hgd | ho | hd => rfl); (intro b3 w3 l3 B3 e3 z3); have A3 := A2.below e3 (Nat.lt_of_lt_of_le A2.lt l3); have R3 := B2.below e3 (Nat.lt_of_lt_of_le B2.lt l3))
    | ((with_reducible refine wpList_store_new 39 (.tmp 3) (.tmp 6) b3 mzero ((⟨8, 0, 0, ⟨#[]⟩, ⟨#[]⟩, ⟨#[]⟩, 0, 0, Sld.zero, ToldD.zero, Rcp.zero⟩ : MsgD).cells (.slice none 0 0) (.slice none 0 0)) 39 B3 rfl sizeMsg (mcells_one nil_shape nil_shape) ?hgd ?ho ?hx ?hy ?_); (case hgd | ho | hx | hy => rfl); (intro w4 B4 o4); have A4 := o4.blk A3 (by have := A2.lt; omega); have R4 := o4.blk R3 (by have := R3.lt; have := B2.lt; omega); have a4_0 := A4.cell (i := 0) rfl; have a4_3 := A4.cell (i := 3) rfl; have a4_19 := A4.cell (i := 19) rfl)
    | ((with_reducible refine wpList_store_at 9 (.tmp 12) (.tmp 11) b3 3 (.string nonce) _ _ B4 (Nat.le_of_ble_eq_true rfl) (by kernel_rfl) rfl ?hgd ?ho ?hx ?hy ?_); (case hgd | ho | hx | hy => rfl); (intro w5 B5 o5); replace B5 : Blk w5 b3 ((⟨8, 0, 0, nonce, ⟨#[]⟩, ⟨#[]⟩, 0, 0, Sld.zero, ToldD.zero, Rcp.zero⟩ : MsgD).cells (.slice none 0 0) (.slice none 0 0)) 39 := B5; have A5 := o5.blk A4 (by have := A2.lt; omega); have R5 := o5.blk R4 (by have := R3.lt; have := B2.lt; omega); have a5_0 := A5.cell (i := 0) rfl; have a5_3 := A5.cell (i := 3) rfl; have a5_19 := A5.cell (i := 19) rfl)
    | ((with_reducible refine wpList_load_met 35 (.tmp 72) b1 17 ((⟨tE, tL, false, tF, tA, tH, tB, tU, tV, tS, tC⟩ : ToldD).cells u l) _ (some 73) ((A5.ext (MsgD.toldAt (⟨8, epoch, seq, nonce, tag, last, askE, askL, sld, (⟨tE, tL, false, tF, tA, tH, tB, tU, tV, tS, tC⟩ : ToldD), rcp⟩ : MsgD) u l)).part (off := 17) rfl) Tryz.underlying35 rfl rsizeTold' ?hg ?ho ?hds ?hx ?_); (case ho | hg | hds | hx => rfl))
    | ((with_reducible refine wpList_store_part 35 (.tmp 74) (.tmp 73) b3 17 ((⟨tE, tL, false, tF, tA, tH, tB, tU, tV, tS, tC⟩ : ToldD).cells u l) _ _ B5 (Nat.le_of_ble_eq_true rfl) rsizeTold' (tcells_one hsu hsl) ?hgd ?ho ?hx ?hy ?_); (case hgd | ho | hx | hy => rfl); (intro w6 B6 o6); replace B6 : Blk w6 b3 ((⟨8, 0, 0, nonce, ⟨#[]⟩, ⟨#[]⟩, 0, 0, Sld.zero, (⟨tE, tL, false, tF, tA, tH, tB, tU, tV, tS, tC⟩ : ToldD), Rcp.zero⟩ : MsgD).cells u l) 39 := B6; have A6 := o6.blk A5 (by have := A2.lt; omega); have R6 := o6.blk R5 (by have := R3.lt; have := B2.lt; omega); have a6_0 := A6.cell (i := 0) rfl; have a6_3 := A6.cell (i := 3) rfl; have a6_19 := A6.cell (i := 19) rfl)
    | ((with_reducible refine wpList_load_met 39 (.tmp 3) b3 0 ((⟨8, 0, 0, nonce, ⟨#[]⟩, ⟨#[]⟩, 0, 0, Sld.zero, (⟨tE, tL, false, tF, tA, tH, tB, tU, tV, tS, tC⟩ : ToldD), Rcp.zero⟩ : MsgD).cells u l) _ (some 89) (B6.range) Tryz.underlying39 rfl sizeMsg ?hg ?ho ?hds ?hx ?_); (case ho | hg | hds | hx => rfl))
    | ((with_reducible refine wpList_store_new 39 (.tmp 2) (.tmp 89) b2 mzero ((⟨8, 0, 0, nonce, ⟨#[]⟩, ⟨#[]⟩, 0, 0, Sld.zero, (⟨tE, tL, false, tF, tA, tH, tB, tU, tV, tS, tC⟩ : ToldD), Rcp.zero⟩ : MsgD).cells u l) 39 R6 rfl sizeMsg (mcells_one hsu hsl) ?hgd ?ho ?hx ?hy ?_); (case hgd | ho | hx | hy => rfl); (intro w99 B99 o99))
    | fail)
  (try simp only [Exit.inBlock, Exit.then])
  refine bodyPost_ret (results_cell1 rfl _ _ B99.range rfl Tryz.underlying39 rfl sizeMsg) rfl ⟨rfl, o99.below ((o6.below ((o5.below ((o4.below (((e1.mono l1).trans (e2.mono (by have := e1.size; omega))).trans (e3.mono (by have := e1.size; have := e2.size; omega))) (by have := e1.size; have := e2.size; omega))) (by have := e1.size; have := e2.size; omega))) (by have := e1.size; have := e2.size; omega))) (by have := e1.size; omega)⟩
set_option maxRecDepth 100000 in
set_option maxHeartbeats 8000000 in
theorem bare_10 (epoch seq : Int) (nonce tag last : ByteArray) (askE askL : Int) (sld : Sld) (told : ToldD) (rcp : Rcp) (u l : Value) (w : World) :
    Calls Tryz.prog 96 #[(⟨10, epoch, seq, nonce, tag, last, askE, askL, sld, told, rcp⟩ : MsgD).v u l] w fun e w' => e = .returned ((⟨10, 0, 0, ⟨#[]⟩, ⟨#[]⟩, ⟨#[]⟩, 0, 0, Sld.zero, ToldD.zero, rcp⟩ : MsgD).v (.slice none 0 0) (.slice none 0 0)) ∧ Below w.heap.size w w' := by
  go_enter Tryz.func96, Tryz.ntmps96
  go_wp2_with (first
    | ((with_reducible refine wpList_box_new 39 (.tmp 0) ((⟨10, epoch, seq, nonce, tag, last, askE, askL, sld, told, rcp⟩ : MsgD).cells u l) (some 1) ?hgd ?ho ?hd ?hx ?_); (case hgd | ho | hd | hx => rfl); (intro b1 w1 l1 B1 e1 z1))
    | ((with_reducible refine wpList_alloc_new 39 mzero zeroMsgB (some 2) ?hgd ?ho ?hd ?_); (case hgd | ho | hd => rfl); (intro b2 w2 l2 B2 e2 z2); have A2 := B1.below e2 (Nat.lt_of_lt_of_le B1.lt l2); have a2_0 := A2.cell (i := 0) rfl)
    | ((with_reducible refine wpList_build_eq 39 ?parts ((⟨10, 0, 0, ⟨#[]⟩, ⟨#[]⟩, ⟨#[]⟩, 0, 0, Sld.zero, ToldD.zero, Rcp.zero⟩ : MsgD).cells (.slice none 0 0) (.slice none 0 0)) ?hg ?ho ?hf ?_); (case hg | ho => rfl); (case hf => exact builtMsg _))
    | ((with_reducible refine wpList_alloc_new 39 mzero zeroMsgB (some 3) ?hgd ?ho ?hd ?_); (case hgd | ho | hd => rfl); (intro b3 w3 l3 B3 e3 z3); have A3 := A2.below e3 (Nat.lt_of_lt_of_le A2.lt l3); have R3 := B2.below e3 (Nat.lt_of_lt_of_le B2.lt l3))
    | ((with_reducible refine wpList_store_new 39 (.tmp 3) (.tmp 6) b3 mzero ((⟨10, 0, 0, ⟨#[]⟩, ⟨#[]⟩, ⟨#[]⟩, 0, 0, Sld.zero, ToldD.zero, Rcp.zero⟩ : MsgD).cells (.slice none 0 0) (.slice none 0 0)) 39 B3 rfl sizeMsg (mcells_one nil_shape nil_shape) ?hgd ?ho ?hx ?hy ?_); (case hgd | ho | hx | hy => rfl); (intro w4 B4 o4); have A4 := o4.blk A3 (by have := A2.lt; omega); have R4 := o4.blk R3 (by have := R3.lt; have := B2.lt; omega); have a4_0 := A4.cell (i := 0) rfl)
    | ((with_reducible refine wpList_load_met 37 (.tmp 86) b1 30 rcp.cells _ (some 87) ((A4.ext (MsgD.rcpAt (⟨10, epoch, seq, nonce, tag, last, askE, askL, sld, told, rcp⟩ : MsgD) u l)).part (off := 30) rfl) Tryz.underlying37 rfl rsizeRcp ?hg ?ho ?hds ?hx ?_); (case ho | hg | hds | hx => rfl))
    | ((with_reducible refine wpList_store_part 37 (.tmp 88) (.tmp 87) b3 30 rcp.cells _ _ B4 (Nat.le_of_ble_eq_true rfl) rsizeRcp rcpcells_one ?hgd ?ho ?hx ?hy ?_); (case hgd | ho | hx | hy => rfl); (intro w5 B5 o5); replace B5 : Blk w5 b3 ((⟨10, 0, 0, ⟨#[]⟩, ⟨#[]⟩, ⟨#[]⟩, 0, 0, Sld.zero, ToldD.zero, rcp⟩ : MsgD).cells (.slice none 0 0) (.slice none 0 0)) 39 := B5; have A5 := o5.blk A4 (by have := A2.lt; omega); have R5 := o5.blk R4 (by have := R3.lt; have := B2.lt; omega); have a5_0 := A5.cell (i := 0) rfl)
    | ((with_reducible refine wpList_load_met 39 (.tmp 3) b3 0 ((⟨10, 0, 0, ⟨#[]⟩, ⟨#[]⟩, ⟨#[]⟩, 0, 0, Sld.zero, ToldD.zero, rcp⟩ : MsgD).cells (.slice none 0 0) (.slice none 0 0)) _ (some 89) (B5.range) Tryz.underlying39 rfl sizeMsg ?hg ?ho ?hds ?hx ?_); (case ho | hg | hds | hx => rfl))
    | ((with_reducible refine wpList_store_new 39 (.tmp 2) (.tmp 89) b2 mzero ((⟨10, 0, 0, ⟨#[]⟩, ⟨#[]⟩, ⟨#[]⟩, 0, 0, Sld.zero, ToldD.zero, rcp⟩ : MsgD).cells (.slice none 0 0) (.slice none 0 0)) 39 R5 rfl sizeMsg (mcells_one nil_shape nil_shape) ?hgd ?ho ?hx ?hy ?_); (case hgd | ho | hx | hy => rfl); (intro w99 B99 o99))
    | fail)
  (try simp only [Exit.inBlock, Exit.then])
  refine bodyPost_ret (results_cell1 rfl _ _ B99.range rfl Tryz.underlying39 rfl sizeMsg) rfl ⟨rfl, o99.below ((o5.below ((o4.below (((e1.mono l1).trans (e2.mono (by have := e1.size; omega))).trans (e3.mono (by have := e1.size; have := e2.size; omega))) (by have := e1.size; have := e2.size; omega))) (by have := e1.size; have := e2.size; omega))) (by have := e1.size; omega)⟩
set_option maxRecDepth 100000 in
set_option maxHeartbeats 8000000 in
theorem bare_l (kind : Int) (k1 : kind ≠ 1) (k2 : kind ≠ 2) (k3 : kind ≠ 3) (k4 : kind ≠ 4) (k5 : kind ≠ 5) (k6 : kind ≠ 6) (k7 : kind ≠ 7) (k8 : kind ≠ 8) (k10 : kind ≠ 10) (kl : kind < 4) (epoch seq : Int) (nonce tag last : ByteArray) (askE askL : Int) (sld : Sld) (told : ToldD) (rcp : Rcp) (u l : Value) (w : World) :
    Calls Tryz.prog 96 #[(⟨kind, epoch, seq, nonce, tag, last, askE, askL, sld, told, rcp⟩ : MsgD).v u l] w fun e w' => e = .returned ((⟨kind, 0, 0, nonce, ⟨#[]⟩, ⟨#[]⟩, 0, 0, Sld.zero, ToldD.zero, Rcp.zero⟩ : MsgD).v (.slice none 0 0) (.slice none 0 0)) ∧ Below w.heap.size w w' := by
  have p2 : (kind == 2) = false := by simp [k2]
  have p3 : (kind == 3) = false := by simp [k3]
  have p4 : (kind == 4) = false := by simp [k4]
  have p6 : (kind == 6) = false := by simp [k6]
  have p7 : (kind == 7) = false := by simp [k7]
  have p8 : (kind == 8) = false := by simp [k8]
  have p10 : (kind == 10) = false := by simp [k10]
  go_enter Tryz.func96, Tryz.ntmps96
  go_wp2_with (first
    | ((with_reducible refine wpList_box_new 39 (.tmp 0) ((⟨kind, epoch, seq, nonce, tag, last, askE, askL, sld, told, rcp⟩ : MsgD).cells u l) (some 1) ?hgd ?ho ?hd ?hx ?_); (case hgd | ho | hd | hx => rfl); (intro b1 w1 l1 B1 e1 z1))
    | ((with_reducible refine wpList_alloc_new 39 mzero zeroMsgB (some 2) ?hgd ?ho ?hd ?_); (case hgd | ho | hd => rfl); (intro b2 w2 l2 B2 e2 z2); have A2 := B1.below e2 (Nat.lt_of_lt_of_le B1.lt l2); have a2_0 := A2.cell (i := 0) rfl)
    | ((with_reducible refine wpList_build_eq 39 ?parts ((⟨kind, 0, 0, ⟨#[]⟩, ⟨#[]⟩, ⟨#[]⟩, 0, 0, Sld.zero, ToldD.zero, Rcp.zero⟩ : MsgD).cells (.slice none 0 0) (.slice none 0 0)) ?hg ?ho ?hf ?_); (case hg | ho => rfl); (case hf => exact builtMsg _))
    | ((with_reducible refine wpList_alloc_new 39 mzero zeroMsgB (some 3) ?hgd ?ho ?hd ?_); (case hgd | ho | hd => rfl); (intro b3 w3 l3 B3 e3 z3); have A3 := A2.below e3 (Nat.lt_of_lt_of_le A2.lt l3); have R3 := B2.below e3 (Nat.lt_of_lt_of_le B2.lt l3))
    | ((with_reducible refine wpList_store_new 39 (.tmp 3) (.tmp 6) b3 mzero ((⟨kind, 0, 0, ⟨#[]⟩, ⟨#[]⟩, ⟨#[]⟩, 0, 0, Sld.zero, ToldD.zero, Rcp.zero⟩ : MsgD).cells (.slice none 0 0) (.slice none 0 0)) 39 B3 rfl sizeMsg (mcells_one nil_shape nil_shape) ?hgd ?ho ?hx ?hy ?_); (case hgd | ho | hx | hy => rfl); (intro w4 B4 o4); have A4 := o4.blk A3 (by have := A2.lt; omega); have R4 := o4.blk R3 (by have := R3.lt; have := B2.lt; omega); have a4_0 := A4.cell (i := 0) rfl; have a4_3 := A4.cell (i := 3) rfl)
    | ((with_reducible refine wpList_store_at 9 (.tmp 12) (.tmp 11) b3 3 (.string nonce) _ _ B4 (Nat.le_of_ble_eq_true rfl) (by kernel_rfl) rfl ?hgd ?ho ?hx ?hy ?_); (case hgd | ho | hx | hy => rfl); (intro w5 B5 o5); replace B5 : Blk w5 b3 ((⟨kind, 0, 0, nonce, ⟨#[]⟩, ⟨#[]⟩, 0, 0, Sld.zero, ToldD.zero, Rcp.zero⟩ : MsgD).cells (.slice none 0 0) (.slice none 0 0)) 39 := B5; have A5 := o5.blk A4 (by have := A2.lt; omega); have R5 := o5.blk R4 (by have := R3.lt; have := B2.lt; omega); have a5_0 := A5.cell (i := 0) rfl; have a5_3 := A5.cell (i := 3) rfl)
    | ((with_reducible refine wpList_load_met 39 (.tmp 3) b3 0 ((⟨kind, 0, 0, nonce, ⟨#[]⟩, ⟨#[]⟩, 0, 0, Sld.zero, ToldD.zero, Rcp.zero⟩ : MsgD).cells (.slice none 0 0) (.slice none 0 0)) _ (some 89) (B5.range) Tryz.underlying39 rfl sizeMsg ?hg ?ho ?hds ?hx ?_); (case ho | hg | hds | hx => rfl))
    | ((with_reducible refine wpList_store_new 39 (.tmp 2) (.tmp 89) b2 mzero ((⟨kind, 0, 0, nonce, ⟨#[]⟩, ⟨#[]⟩, 0, 0, Sld.zero, ToldD.zero, Rcp.zero⟩ : MsgD).cells (.slice none 0 0) (.slice none 0 0)) 39 R5 rfl sizeMsg (mcells_one nil_shape nil_shape) ?hgd ?ho ?hx ?hy ?_); (case hgd | ho | hx | hy => rfl); (intro w99 B99 o99))
    | fail)
  (try simp only [Exit.inBlock, Exit.then])
  refine bodyPost_ret (results_cell1 rfl _ _ B99.range rfl Tryz.underlying39 rfl sizeMsg) rfl ⟨rfl, o99.below ((o5.below ((o4.below (((e1.mono l1).trans (e2.mono (by have := e1.size; omega))).trans (e3.mono (by have := e1.size; have := e2.size; omega))) (by have := e1.size; have := e2.size; omega))) (by have := e1.size; have := e2.size; omega))) (by have := e1.size; omega)⟩
set_option maxRecDepth 100000 in
set_option maxHeartbeats 8000000 in
theorem bare_h (kind : Int) (k1 : kind ≠ 1) (k2 : kind ≠ 2) (k3 : kind ≠ 3) (k4 : kind ≠ 4) (k5 : kind ≠ 5) (k6 : kind ≠ 6) (k7 : kind ≠ 7) (k8 : kind ≠ 8) (k10 : kind ≠ 10) (kl : 6 < kind) (epoch seq : Int) (nonce tag last : ByteArray) (askE askL : Int) (sld : Sld) (told : ToldD) (rcp : Rcp) (u l : Value) (w : World) :
    Calls Tryz.prog 96 #[(⟨kind, epoch, seq, nonce, tag, last, askE, askL, sld, told, rcp⟩ : MsgD).v u l] w fun e w' => e = .returned ((⟨kind, 0, 0, nonce, ⟨#[]⟩, ⟨#[]⟩, 0, 0, Sld.zero, ToldD.zero, Rcp.zero⟩ : MsgD).v (.slice none 0 0) (.slice none 0 0)) ∧ Below w.heap.size w w' := by
  have p2 : (kind == 2) = false := by simp [k2]
  have p3 : (kind == 3) = false := by simp [k3]
  have p4 : (kind == 4) = false := by simp [k4]
  have p6 : (kind == 6) = false := by simp [k6]
  have p7 : (kind == 7) = false := by simp [k7]
  have p8 : (kind == 8) = false := by simp [k8]
  have p10 : (kind == 10) = false := by simp [k10]
  go_enter Tryz.func96, Tryz.ntmps96
  go_wp2_with (first
    | ((with_reducible refine wpList_box_new 39 (.tmp 0) ((⟨kind, epoch, seq, nonce, tag, last, askE, askL, sld, told, rcp⟩ : MsgD).cells u l) (some 1) ?hgd ?ho ?hd ?hx ?_); (case hgd | ho | hd | hx => rfl); (intro b1 w1 l1 B1 e1 z1))
    | ((with_reducible refine wpList_alloc_new 39 mzero zeroMsgB (some 2) ?hgd ?ho ?hd ?_); (case hgd | ho | hd => rfl); (intro b2 w2 l2 B2 e2 z2); have A2 := B1.below e2 (Nat.lt_of_lt_of_le B1.lt l2); have a2_0 := A2.cell (i := 0) rfl)
    | ((with_reducible refine wpList_build_eq 39 ?parts ((⟨kind, 0, 0, ⟨#[]⟩, ⟨#[]⟩, ⟨#[]⟩, 0, 0, Sld.zero, ToldD.zero, Rcp.zero⟩ : MsgD).cells (.slice none 0 0) (.slice none 0 0)) ?hg ?ho ?hf ?_); (case hg | ho => rfl); (case hf => exact builtMsg _))
    | ((with_reducible refine wpList_alloc_new 39 mzero zeroMsgB (some 3) ?hgd ?ho ?hd ?_); (case hgd | ho | hd => rfl); (intro b3 w3 l3 B3 e3 z3); have A3 := A2.below e3 (Nat.lt_of_lt_of_le A2.lt l3); have R3 := B2.below e3 (Nat.lt_of_lt_of_le B2.lt l3))
    | ((with_reducible refine wpList_store_new 39 (.tmp 3) (.tmp 6) b3 mzero ((⟨kind, 0, 0, ⟨#[]⟩, ⟨#[]⟩, ⟨#[]⟩, 0, 0, Sld.zero, ToldD.zero, Rcp.zero⟩ : MsgD).cells (.slice none 0 0) (.slice none 0 0)) 39 B3 rfl sizeMsg (mcells_one nil_shape nil_shape) ?hgd ?ho ?hx ?hy ?_); (case hgd | ho | hx | hy => rfl); (intro w4 B4 o4); have A4 := o4.blk A3 (by have := A2.lt; omega); have R4 := o4.blk R3 (by have := R3.lt; have := B2.lt; omega); have a4_0 := A4.cell (i := 0) rfl; have a4_3 := A4.cell (i := 3) rfl)
    | ((with_reducible refine wpList_store_at 9 (.tmp 12) (.tmp 11) b3 3 (.string nonce) _ _ B4 (Nat.le_of_ble_eq_true rfl) (by kernel_rfl) rfl ?hgd ?ho ?hx ?hy ?_); (case hgd | ho | hx | hy => rfl); (intro w5 B5 o5); replace B5 : Blk w5 b3 ((⟨kind, 0, 0, nonce, ⟨#[]⟩, ⟨#[]⟩, 0, 0, Sld.zero, ToldD.zero, Rcp.zero⟩ : MsgD).cells (.slice none 0 0) (.slice none 0 0)) 39 := B5; have A5 := o5.blk A4 (by have := A2.lt; omega); have R5 := o5.blk R4 (by have := R3.lt; have := B2.lt; omega); have a5_0 := A5.cell (i := 0) rfl; have a5_3 := A5.cell (i := 3) rfl)
    | ((with_reducible refine wpList_load_met 39 (.tmp 3) b3 0 ((⟨kind, 0, 0, nonce, ⟨#[]⟩, ⟨#[]⟩, 0, 0, Sld.zero, ToldD.zero, Rcp.zero⟩ : MsgD).cells (.slice none 0 0) (.slice none 0 0)) _ (some 89) (B5.range) Tryz.underlying39 rfl sizeMsg ?hg ?ho ?hds ?hx ?_); (case ho | hg | hds | hx => rfl))
    | ((with_reducible refine wpList_store_new 39 (.tmp 2) (.tmp 89) b2 mzero ((⟨kind, 0, 0, nonce, ⟨#[]⟩, ⟨#[]⟩, 0, 0, Sld.zero, ToldD.zero, Rcp.zero⟩ : MsgD).cells (.slice none 0 0) (.slice none 0 0)) 39 R5 rfl sizeMsg (mcells_one nil_shape nil_shape) ?hgd ?ho ?hx ?hy ?_); (case hgd | ho | hx | hy => rfl); (intro w99 B99 o99))
    | fail)
  (try simp only [Exit.inBlock, Exit.then])
  refine bodyPost_ret (results_cell1 rfl _ _ B99.range rfl Tryz.underlying39 rfl sizeMsg) rfl ⟨rfl, o99.below ((o5.below ((o4.below (((e1.mono l1).trans (e2.mono (by have := e1.size; omega))).trans (e3.mono (by have := e1.size; have := e2.size; omega))) (by have := e1.size; have := e2.size; omega))) (by have := e1.size; have := e2.size; omega))) (by have := e1.size; omega)⟩
def BareEnd (m : MsgD) (u l : Value) (e : Ending) (w' : World) : Prop := ∃ u' l', e = .returned ((bareD m).v u' l') ∧ PRow w' u' (bareD m).told.up ∧ PRow w' l' (bareD m).told.left
theorem BareEnd.nil {m y : MsgD} {u l : Value} {e : Ending} {w' : World} (h : e = .returned (y.v (.slice none 0 0) (.slice none 0 0))) (hy : bareD m = y) (h1 : y.told.up = []) (h2 : y.told.left = []) : BareEnd m u l e w' := by
  subst hy
  exact ⟨_, _, h, h1 ▸ PathIn.nil _ _, h2 ▸ PathIn.nil _ _⟩
theorem bare27_walk (m : MsgD) (u l : Value) (w : World) (hu : PRow w u m.told.up) (hl : PRow w l m.told.left) :
    Calls Tryz.prog 96 #[m.v u l] w fun e w' => BareEnd m u l e w' ∧ Below w.heap.size w w' := by
  have hsu := hu.shape
  have hsl := hl.shape
  obtain ⟨kind, epoch, seq, nonce, tag, last, askE, askL, sld, told, rcp⟩ := m
  by_cases k1 : kind = 1
  · subst k1; exact (bare_1 epoch seq nonce tag last askE askL sld told rcp u l w).mono fun e w' ⟨he, hb⟩ => ⟨.nil he (by simp [bareD]) rfl rfl, hb⟩
  by_cases k2 : kind = 2
  · subst k2; exact (bare_2 epoch seq nonce tag last askE askL sld told rcp u l w).mono fun e w' ⟨he, hb⟩ => ⟨.nil he (by simp [bareD]) rfl rfl, hb⟩
  by_cases k3 : kind = 3
  · subst k3; exact (bare_3 epoch seq nonce tag last askE askL sld told rcp u l w).mono fun e w' ⟨he, hb⟩ => ⟨.nil he (by simp [bareD]) rfl rfl, hb⟩
  by_cases k4 : kind = 4
  · subst k4; exact (bare_4 epoch seq nonce tag last askE askL sld told rcp u l w).mono fun e w' ⟨he, hb⟩ => ⟨.nil he (by simp [bareD]) rfl rfl, hb⟩
  by_cases k5 : kind = 5
  · subst k5; exact (bare_5 epoch seq nonce tag last askE askL sld told rcp u l w).mono fun e w' ⟨he, hb⟩ => ⟨.nil he (by simp [bareD]) rfl rfl, hb⟩
  by_cases k6 : kind = 6
  · subst k6; exact (bare_6 epoch seq nonce tag last askE askL sld told rcp u l w).mono fun e w' ⟨he, hb⟩ => ⟨.nil he (by simp [bareD]) rfl rfl, hb⟩
  by_cases k7 : kind = 7
  · subst k7; exact (bare_7 epoch seq nonce tag last askE askL sld told rcp u l w).mono fun e w' ⟨he, hb⟩ => ⟨.nil he (by simp [bareD]) rfl rfl, hb⟩
  by_cases k8 : kind = 8
  · subst k8
    obtain ⟨tE, tL, g, tF, tA, tH, tB, tU, tV, tS, tC⟩ := told
    cases g with
    | true => exact (bare_8t epoch seq nonce tag last askE askL sld tE tL tF tA tH tB tU tV tS tC rcp u l w hsu hsl).mono fun e w' ⟨he, hb⟩ => ⟨.nil he (by simp [bareD, bareT]) rfl rfl, hb⟩
    | false => exact (bare_8f epoch seq nonce tag last askE askL sld tE tL tF tA tH tB tU tV tS tC rcp u l w hsu hsl).mono fun e w' ⟨he, hb⟩ => ⟨⟨u, l, by rw [he]; simp [bareD, bareT], by simpa [bareD, bareT] using hu.below hb (Nat.le_refl _), by simpa [bareD, bareT] using hl.below hb (Nat.le_refl _)⟩, hb⟩
  by_cases k10 : kind = 10
  · subst k10; exact (bare_10 epoch seq nonce tag last askE askL sld told rcp u l w).mono fun e w' ⟨he, hb⟩ => ⟨.nil he (by simp [bareD]) rfl rfl, hb⟩
  by_cases k46 : kind < 4
  · exact (bare_l kind k1 k2 k3 k4 k5 k6 k7 k8 k10 k46 epoch seq nonce tag last askE askL sld told rcp u l w).mono fun e w' ⟨he, hb⟩ => ⟨.nil he (by simp [bareD, k2, k3, k4, k6, k7, k8, k10, show ¬ (4 ≤ kind ∧ kind ≤ 6) by omega]) rfl rfl, hb⟩
  · exact (bare_h kind k1 k2 k3 k4 k5 k6 k7 k8 k10 (by omega) epoch seq nonce tag last askE askL sld told rcp u l w).mono fun e w' ⟨he, hb⟩ => ⟨.nil he (by simp [bareD, k2, k3, k4, k6, k7, k8, k10, show ¬ (4 ≤ kind ∧ kind ≤ 6) by omega]) rfl rfl, hb⟩
end Go.Proofs.YtidekfbgjghcjaaGreat
namespace Go.Proofs.YtidekfbgjghcjaaGreat
set_option linter.unusedSimpArgs false
set_option linter.unusedVariables false
open Go Go.RowKit

theorem repoch_walk (n : Int) (w : World) : Calls Tryz.prog 97 #[.int .i64 n] w fun e w' => e = .returned (.bool (epochOk n)) ∧ w = w' := by
  by_cases h : 0 ≤ n
  · go_enter Tryz.func97, Tryz.ntmps97
    go_wp2_with fail
    go_ret
    exact ⟨by unfold epochOk; simp [h], rfl⟩
  · have h' : n < 0 := by omega
    go_enter Tryz.func97, Tryz.ntmps97
    go_wp2_with fail
    go_ret
    exact ⟨by unfold epochOk; rw [decide_eq_false (show ¬ 0 ≤ n by omega)]; rfl, rfl⟩
theorem rask_walk (e l : Int) (w : World) :
    Calls Tryz.prog 99 #[.agg #[.int .i64 e, .int .i64 l]] w fun r w' => r = .returned (.bool (askOk e l)) ∧ Below w.heap.size w w' := by
  cases h : epochOk e with
  | false =>
    have H := Lib.hid h; clear h
    go_enter Tryz.func99, Tryz.ntmps99
    go_wp2_with (go_at_call 97; refine (repoch_walk e _).mono ?_; rintro r w1 ⟨rfl, rfl⟩; rw [H.out])
    go_ret
    refine ⟨?_, (Below.refl _ _).alloc (Nat.le_refl _) _⟩
    unfold askOk
    rw [H.out]; rfl
  | true =>
    have H := Lib.hid h; clear h
    by_cases hl : 0 ≤ l
    · go_enter Tryz.func99, Tryz.ntmps99
      go_wp2_with (go_at_call 97; refine (repoch_walk e _).mono ?_; rintro r w1 ⟨rfl, rfl⟩; rw [H.out])
      go_ret
      refine ⟨?_, (Below.refl _ _).alloc (Nat.le_refl _) _⟩
      unfold askOk
      rw [H.out, decide_eq_true hl]; rfl
    · have hl' : l < 0 := by omega
      go_enter Tryz.func99, Tryz.ntmps99
      go_wp2_with (go_at_call 97; refine (repoch_walk e _).mono ?_; rintro r w1 ⟨rfl, rfl⟩; rw [H.out])
      go_ret
      refine ⟨?_, (Below.refl _ _).alloc (Nat.le_refl _) _⟩
      unfold askOk
      rw [H.out, decide_eq_false (show ¬ 0 ≤ l by omega)]; rfl
set_option maxRecDepth 100000 in
set_option maxHeartbeats 1000000 in
theorem rpsaid_walk (x : LeafD) (w : World) :
    Calls Tryz.prog 158 #[x.v] w fun r w' => ∃ s, r = .returned (.string s) ∧ Txt s (pleafL x) ∧ Below w.heap.size w w' := by
  obtain ⟨n, h⟩ := x
  unfold LeafD.v
  by_cases h0 : 0 ≤ n
  rotate_left
  · have h0' : n < 0 := by omega
    have HF := Lib.hid (show pleafL ⟨n, h⟩ = [] by unfold pleafL leafSaid; simp [h0])
    go_enter Tryz.func158, Tryz.ntmps158
    go_wp2_with fail
    go_ret
    refine ⟨_, rfl, ?_, (Below.refl _ _).alloc (Nat.le_refl _) _⟩
    rw [HF.out]; rfl
  by_cases h1 : n ≤ 4095
  rotate_left
  · have h1' : 4095 < n := by omega
    have HF := Lib.hid (show pleafL ⟨n, h⟩ = [] by unfold pleafL leafSaid; simp; omega)
    go_enter Tryz.func158, Tryz.ntmps158
    go_wp2_with fail
    go_ret
    refine ⟨_, rfl, ?_, (Below.refl _ _).alloc (Nat.le_refl _) _⟩
    rw [HF.out]; rfl
  by_cases h2 : (h.size : Int) = 32
  rotate_left
  · have HF := Lib.hid (show pleafL ⟨n, h⟩ = [] by unfold pleafL leafSaid; simp [h2])
    have p2 : ((h.size : Int) == 32) = false := by simp [h2]
    have p3 : ((h.size : Int) != 32) = true := by simp [h2]
    go_enter Tryz.func158, Tryz.ntmps158
    go_wp2_with fail
    go_ret
    refine ⟨_, rfl, ?_, (Below.refl _ _).alloc (Nat.le_refl _) _⟩
    rw [HF.out]; rfl
  have HF := Lib.hid (show pleafL ⟨n, h⟩ = beBytes 4 n.toNat ++ h.data.toList by unfold pleafL leafSaid; simp [h2, h0]; omega)
  obtain ⟨k, rfl⟩ : ∃ k : Nat, n = (k : Int) := ⟨n.toNat, by omega⟩
  have p2 : ((h.size : Int) == 32) = true := by simp [h2]
  have p3 : ((h.size : Int) != 32) = false := by simp [h2]
  have H2 := Lib.hid h2; clear h2
  go_enter Tryz.func158, Tryz.ntmps158
  go_wp2_with ((with_reducible refine wpList_box_new 29 (.tmp 0) [.int .i64 (k : Int), .string h] (some 1) ?hgd ?ho ?hd ?hx ?_); (case hgd | ho | hd | hx => rfl); (intro b w0 l0 B0 e0 z0; have c0 := B0.cell (i := 0) rfl; have c1 := B0.cell (i := 1) rfl))
  refine (rput_walk k 4 _ (by omega)).mono ?_
  rintro e w1 ⟨he, hb1⟩
  obtain ⟨r, rfl, tr⟩ := he.yes ⟨by omega, by omega, by omega, by simp; omega⟩
  have B1 := B0.below hb1 B0.lt
  have HB1 : Below w.heap.size w w1 := (e0.mono l0).trans (hb1.mono (by have := e0.size; omega))
  clear c0 c1
  have c0 := B1.cell (i := 0) rfl
  have c1 := B1.cell (i := 1) rfl
  have TR := Lib.hid tr
  have hrs : r.size ≤ 4 := by rw [tr.size, beBytes_length]; exact Nat.le_refl _
  have hh : h.size ≤ 32 := by have := H2.out; omega
  clear tr he hb1 B0 e0 l0 z0
  go_wp2_with fail
  go_ret
  refine ⟨_, rfl, ?_, HB1⟩
  rw [HF.out]
  exact TR.out.append (Txt.self h)
set_option maxRecDepth 100000 in
set_option maxHeartbeats 1000000 in
theorem rleaf_walk (x : LeafD) (w : World) :
    Calls Tryz.prog 100 #[x.v] w fun r w' => r = .returned (.bool (leafOk x)) ∧ Below w.heap.size w w' := by
  cases hz : decide (x = LeafD.zero) with
  | true =>
    have HZ := Lib.hid hz
    have HF := Lib.hid (show leafOk x = true by unfold leafOk; rw [hz]; rfl)
    clear hz
    go_enter Tryz.func100, Tryz.ntmps100
    go_wp2_with (first
      | ((with_reducible refine wpList_box_new 29 (.tmp 0) x.cells (some 1) ?hgd ?ho ?hd ?hx ?_); (case hgd | ho | hd | hx => rfl); (intro b w0 l0 B0 e0 z0))
      | ((with_reducible refine wpList_load_met 29 (.tmp 1) b 0 x.cells _ (some 3) B0.range Tryz.underlying29 rfl rsizeLeaf ?hg ?ho ?hds ?hx ?_); (case hg | ho | hds | hx => rfl))
      | ((with_reducible refine wpList_eq_agg 29 29 (.tmp 3) (.tmp 4) x.cells.toArray LeafD.zero.cells.toArray _ (some 5) guardLeaf (eqLeaf x LeafD.zero _) ?hgd ?ho ?hd ?hx ?hy ?_); (case hgd | ho | hd | hx | hy => rfl); rw [HZ.out])
      | fail)
    go_ret
    exact ⟨by rw [HF.out]; rfl, e0.mono l0⟩
  | false =>
    have HZ := Lib.hid hz
    have HF := Lib.hid (show leafOk x = leafSaid x by unfold leafOk; rw [hz]; rfl)
    clear hz
    go_enter Tryz.func100, Tryz.ntmps100
    go_wp2_with (first
      | ((with_reducible refine wpList_box_new 29 (.tmp 0) x.cells (some 1) ?hgd ?ho ?hd ?hx ?_); (case hgd | ho | hd | hx => rfl); (intro b w0 l0 B0 e0 z0))
      | ((with_reducible refine wpList_load_met 29 (.tmp 1) b 0 x.cells _ (some 3) B0.range Tryz.underlying29 rfl rsizeLeaf ?hg ?ho ?hds ?hx ?_); (case hg | ho | hds | hx => rfl))
      | ((with_reducible refine wpList_eq_agg 29 29 (.tmp 3) (.tmp 4) x.cells.toArray LeafD.zero.cells.toArray _ (some 5) guardLeaf (eqLeaf x LeafD.zero _) ?hgd ?ho ?hd ?hx ?hy ?_); (case hgd | ho | hd | hx | hy => rfl); rw [HZ.out])
      | ((with_reducible refine wpList_load_met 29 (.tmp 1) b 0 x.cells _ (some 7) B0.range Tryz.underlying29 rfl rsizeLeaf ?hg ?ho ?hds ?hx ?_); (case hg | ho | hds | hx => rfl))
      | fail)
    refine (rpsaid_walk x _).mono ?_
    rintro r w1 ⟨s, rfl, ts, hb1⟩
    have HB := Lib.hid ((e0.mono l0).trans (hb1.mono (by have := e0.size; omega)))
    cases hs : leafSaid x with
    | true =>
      have k : (s.toList == []) = false := by rw [ts.toList]; have h := (pleafL_nil x); rw [hs] at h; simpa using h
      have HS := Lib.hid hs
      clear ts hb1 hs e0 B0
      go_wp2_with fail
      go_ret
      exact ⟨by rw [HF.out, HS.out]; rfl, HB.out⟩
    | false =>
      have k : (s.toList == []) = true := by rw [ts.toList, (pleafL_nil x).2 hs]; rfl
      have HS := Lib.hid hs
      clear ts hb1 hs e0 B0
      go_wp2_with fail
      go_ret
      exact ⟨by rw [HF.out, HS.out]; rfl, HB.out⟩
set_option maxHeartbeats 1000000 in
theorem whole15_walk (v : Value) (xs : List ByteArray) (w : World) (h : PRow w v xs) (hl : xs.length ≤ 12) :
    Calls Tryz.prog 101 #[v] w fun e w' => e = .returned (.bool (all32 xs)) ∧ w = w' := by
  obtain ⟨p, c, rfl⟩ := h.shape
  obtain ⟨n, hn⟩ : ∃ n, n = xs.length := ⟨_, rfl⟩
  rw [← hn] at h hl ⊢
  have HN := Lib.hid hn; have H1 := Lib.hid h
  clear hn h
  obtain ⟨r, hr⟩ : ∃ r, r = all32 xs := ⟨_, rfl⟩
  rw [← hr]
  have HR := Lib.hid hr; clear hr
  go_enter Tryz.func101, Tryz.ntmps101
  go_wp2_with fail
  go_loop [3] (fun i => ∃ k : Nat, k ≤ n ∧ i = .int .i64 k ∧ (∀ j : Nat, j < k → ∀ x, xs[j]? = some x → x.size = 32)) (fun i => n - (intOf i).toNat)
  case atStart => exact ⟨0, by omega, rfl, fun j hj => by omega⟩
  case round =>
    obtain ⟨k, hk, rfl, hh⟩ := hrel
    have HH := Lib.hid hh; clear hh
    by_cases hlt : k < n
    · have hlt' : (k : Int) < n := by omega
      have h00 : (0 : Int) ≤ (k : Int) := by omega
      obtain ⟨x, hx⟩ : ∃ x, xs[k]? = some x := ⟨_, List.getElem?_eq_getElem (by rw [← HN.out]; exact hlt)⟩
      obtain ⟨g, o, hp, cx⟩ := H1.out.at HN.out hx
      subst hp
      have HX := Lib.hid hx; clear hx
      by_cases hxy : (x.size : Int) = 32
      · have HXY := Lib.hid hxy
        have p1 : ((x.size : Int) == 32) = true := by simp [hxy]
        clear hxy
        go_wp2_with fail
        go_round
        case rel =>
          refine ⟨k + 1, by omega, by go_num, fun j hj y hy => ?_⟩
          by_cases hjk : j = k
          · rw [hjk, HX.out] at hy
            injection hy with hy
            subst hy
            have := HXY.out
            omega
          · exact HH.out j (by omega) y hy
        case measure => simp [intOf]; omega
      · have hf : r = false := by
          rw [HR.out]
          have hm := List.mem_of_getElem? HX.out
          cases hc : all32 xs with
          | false => rfl
          | true => exact absurd (all32_mem hc x hm) (by omega)
        have HF := Lib.hid hf; clear hf
        have p1 : ((x.size : Int) == 32) = false := by simp [hxy]
        go_wp2_with fail
        go_ret
        exact ⟨by rw [HF.out]; rfl, rfl⟩
    · obtain rfl : k = n := by omega
      have hf : r = true := by
        rw [HR.out]
        refine List.all_eq_true.2 fun x hx => ?_
        obtain ⟨j, hj⟩ := List.getElem?_of_mem hx
        have := (List.getElem?_eq_some_iff.1 hj).1
        exact decide_eq_true (HH.out j (by rw [HN.out]; exact this) x hj)
      have HF := Lib.hid hf; clear hf
      go_wp2_with fail
      go_ret
      exact ⟨by rw [HF.out]; rfl, rfl⟩
end Go.Proofs.YtidekfbgjghcjaaGreat
namespace Go.Proofs.YtidekfbgjghcjaaGreat
set_option linter.unusedSimpArgs false
set_option linter.unusedVariables false
open Go Go.RowKit

theorem num27_walk (n wd : Int) (w : World) (h0 : 0 ≤ n) (h1 : 1 ≤ wd) (h8 : wd ≤ 8) (hn : n.toNat < 256 ^ wd.toNat) (hf : n < 9223372036854775808) :
    Calls Tryz.prog 53 #[.int .i64 n, .int .i64 wd] w fun e w' => ∃ r, e = .returned (.string r) ∧ Txt r (beBytes wd.toNat n.toNat) ∧ Below w.heap.size w w' := by
  have HH := Lib.hid (show 0 ≤ n ∧ 1 ≤ wd ∧ wd ≤ 8 ∧ n.toNat < 256 ^ wd.toNat from ⟨h0, h1, h8, hn⟩)
  have HF := Lib.hid hf
  clear h0 h1 h8 hn hf
  go_enter Tryz.func53, Tryz.ntmps53
  go_wp2_with fail
  refine (rput_walk n wd _ HF.out).mono ?_
  rintro e w1 ⟨he, hb1⟩
  obtain ⟨r, rfl, tr⟩ := he.yes HH.out
  have TR := Lib.hid tr; clear tr he
  go_wp2_with fail
  go_ret
  exact ⟨_, rfl, TR.out, hb1⟩
structure NumIn (n : Int) (k : Nat) : Prop where
  lo : 0 ≤ n
  hi : n.toNat < 256 ^ k
  fits : n < 9223372036854775808
theorem NumIn.of4 {n : Int} (h : 0 ≤ n ∧ n ≤ 4294967295) : NumIn n 4 := ⟨h.1, by omega, by omega⟩
theorem NumIn.of2 {n : Int} (h : 0 ≤ n ∧ n ≤ 65535) : NumIn n 2 := ⟨h.1, by omega, by omega⟩
theorem NumIn.of1 {n : Int} (h : 0 ≤ n ∧ n ≤ 255) : NumIn n 1 := ⟨h.1, by omega, by omega⟩
theorem num4_walk (n : Int) (w : World) (h : NumIn n 4) :
    Calls Tryz.prog 53 #[.int .i64 n, .int .i64 4] w fun e w' => ∃ r, e = .returned (.string r) ∧ Txt r (beBytes 4 n.toNat) ∧ Below w.heap.size w w' := num27_walk n 4 w h.lo (by omega) (by omega) h.hi h.fits
theorem num2_walk (n : Int) (w : World) (h : NumIn n 2) :
    Calls Tryz.prog 53 #[.int .i64 n, .int .i64 2] w fun e w' => ∃ r, e = .returned (.string r) ∧ Txt r (beBytes 2 n.toNat) ∧ Below w.heap.size w w' := num27_walk n 2 w h.lo (by omega) (by omega) h.hi h.fits
theorem num1_walk (n : Int) (w : World) (h : NumIn n 1) :
    Calls Tryz.prog 53 #[.int .i64 n, .int .i64 1] w fun e w' => ∃ r, e = .returned (.string r) ∧ Txt r (beBytes 1 n.toNat) ∧ Below w.heap.size w w' := num27_walk n 1 w h.lo (by omega) (by omega) h.hi h.fits
theorem yes27_walk (b : Bool) (w : World) :
    Calls Tryz.prog 56 #[.bool b] w fun e w' => ∃ r, e = .returned (.string r) ∧ Txt r (flagL b) ∧ Below w.heap.size w w' := by
  cases b with
  | true =>
    go_enter Tryz.func56, Tryz.ntmps56
    go_wp2_with fail
    refine (num1_walk 1 _ (.of1 (by omega))).mono ?_
    rintro e w1 ⟨r, rfl, tr, hb⟩
    have TR := Lib.hid tr; clear tr
    go_wp2_with fail
    go_ret
    exact ⟨_, rfl, TR.out, hb⟩
  | false =>
    go_enter Tryz.func56, Tryz.ntmps56
    go_wp2_with fail
    refine (num1_walk 0 _ (.of1 (by omega))).mono ?_
    rintro e w1 ⟨r, rfl, tr, hb⟩
    have TR := Lib.hid tr; clear tr
    go_wp2_with fail
    go_ret
    exact ⟨_, rfl, TR.out, hb⟩
set_option maxHeartbeats 1000000 in
theorem asks27_walk (e l : Int) (w : World) (h : askOk e l = true) :
    Calls Tryz.prog 55 #[.agg #[.int .i64 e, .int .i64 l]] w fun r w' => ∃ s, r = .returned (.string s) ∧ Txt s (askBL e l) ∧ Below w.heap.size w w' := by
  have hf := askOk_facts h
  have N4 : NumIn e 4 := .of4 ⟨hf.1, hf.2.1⟩
  have N2 : NumIn l 2 := .of2 ⟨hf.2.2.1, by omega⟩
  clear hf h
  go_enter Tryz.func55, Tryz.ntmps55
  go_wp2_with ((with_reducible refine wpList_box_new 23 (.tmp 0) [.int .i64 e, .int .i64 l] (some 1) ?hgd ?ho ?hd ?hx ?_); (case hgd | ho | hd | hx => rfl); (intro b w0 l0 B0 e0 z0))
  have HB : Below w.heap.size w w0.drew := (e0.mono l0).drew
  have BX : Blk w0.drew b [.int .i64 e, .int .i64 l] 23 := B0.drew
  have c0 := B0.cell (i := 0) rfl
  have c1 := B0.cell (i := 1) rfl
  clear e0 B0 z0 l0
  go_region_with (first
    | (go_at_call_of 53 (Value.int IntKind.i64 4); refine (num4_walk e _ N4).mono ?_; rintro r w1 ⟨p, rfl, tp, hb1⟩; have HB1 := HB.trans (hb1.mono HB.size); have BX1 := BX.below hb1 BX.lt; clear HB BX hb1; have HB := HB1; have BX := BX1; clear HB1 BX1; have c0 := BX.cell (i := 0) rfl; have c1 := BX.cell (i := 1) rfl; have hps : p.size ≤ 4 := (by rw [tp.size, beBytes_length]; exact Nat.le_refl _); have TP := Lib.hid tp; clear tp)
    | (go_at_call_of 53 (Value.int IntKind.i64 2); refine (num2_walk l _ N2).mono ?_; rintro r w2 ⟨q, rfl, tq, hb2⟩; have HB2 := HB.trans (hb2.mono HB.size); have BX2 := BX.below hb2 BX.lt; clear HB BX hb2; have HB := HB2; have BX := BX2; clear HB2 BX2; have c0 := BX.cell (i := 0) rfl; have c1 := BX.cell (i := 1) rfl; have hqs : q.size ≤ 2 := (by rw [tq.size, beBytes_length]; exact Nat.le_refl _); have TQ := Lib.hid tq; clear tq)
    | fail)
  all_goals
    go_wp2_with fail
    go_ret
    exact ⟨_, rfl, TP.out.append TQ.out, HB⟩
end Go.Proofs.YtidekfbgjghcjaaGreat
namespace Go.Proofs.YtidekfbgjghcjaaGreat
set_option linter.unusedSimpArgs false
set_option linter.unusedVariables false
open Go Go.RowKit

set_option maxRecDepth 100000 in
set_option maxHeartbeats 1000000 in
theorem leafs27_walk (x : LeafD) (w : World) (h : leafOk x = true) :
    Calls Tryz.prog 58 #[x.v] w fun r w' => ∃ s, r = .returned (.string s) ∧ Txt s (leafL x) ∧ Below w.heap.size w w' := by
  cases hz : decide (x = LeafD.zero) with
  | true =>
    have HZ := Lib.hid hz
    have HF := Lib.hid (show leafL x = flagL false by unfold leafL; rw [if_pos (of_decide_eq_true hz)])
    clear hz
    go_enter Tryz.func58, Tryz.ntmps58
    go_wp2_with (first
      | ((with_reducible refine wpList_box_new 29 (.tmp 0) x.cells (some 1) ?hgd ?ho ?hd ?hx ?_); (case hgd | ho | hd | hx => rfl); (intro b w0 l0 B0 e0 z0))
      | ((with_reducible refine wpList_load_met 29 (.tmp 1) b 0 x.cells _ (some 3) B0.range Tryz.underlying29 rfl rsizeLeaf ?hg ?ho ?hds ?hx ?_); (case hg | ho | hds | hx => rfl))
      | ((with_reducible refine wpList_eq_agg 29 29 (.tmp 3) (.tmp 4) x.cells.toArray LeafD.zero.cells.toArray _ (some 5) guardLeaf (eqLeaf x LeafD.zero _) ?hgd ?ho ?hd ?hx ?hy ?_); (case hgd | ho | hd | hx | hy => rfl); rw [HZ.out])
      | fail)
    refine (num1_walk 0 _ (.of1 (by omega))).mono ?_
    rintro e w1 ⟨r, rfl, tr, hb⟩
    have TR := Lib.hid tr; clear tr
    have HB : Below w.heap.size w w1 := (e0.mono l0).trans (hb.mono (by have := e0.size; omega))
    clear e0 B0 z0 l0 hb
    go_wp2_with fail
    go_ret
    exact ⟨_, rfl, by rw [HF.out]; exact TR.out, HB⟩
  | false =>
    have HZ := Lib.hid hz
    have HF := Lib.hid (show leafL x = flagL true ++ beBytes 2 x.lba.toNat ++ x.hash.data.toList by unfold leafL; rw [if_neg (of_decide_eq_false hz)])
    have hs : leafSaid x = true := by
      unfold leafOk at h; rw [hz] at h; simpa using h
    simp only [leafSaid, Bool.and_eq_true, decide_eq_true_eq] at hs
    have N2 : NumIn x.lba 2 := .of2 ⟨hs.1.1, by omega⟩
    have h32 : x.hash.size ≤ 32 := by omega
    clear hz hs h
    go_enter Tryz.func58, Tryz.ntmps58
    go_wp2_with (first
      | ((with_reducible refine wpList_box_new 29 (.tmp 0) x.cells (some 1) ?hgd ?ho ?hd ?hx ?_); (case hgd | ho | hd | hx => rfl); (intro b w0 l0 B0 e0 z0))
      | ((with_reducible refine wpList_load_met 29 (.tmp 1) b 0 x.cells _ (some 3) B0.range Tryz.underlying29 rfl rsizeLeaf ?hg ?ho ?hds ?hx ?_); (case hg | ho | hds | hx => rfl))
      | ((with_reducible refine wpList_eq_agg 29 29 (.tmp 3) (.tmp 4) x.cells.toArray LeafD.zero.cells.toArray _ (some 5) guardLeaf (eqLeaf x LeafD.zero _) ?hgd ?ho ?hd ?hx ?hy ?_); (case hgd | ho | hd | hx | hy => rfl); rw [HZ.out])
      | fail)
    have HB : Below w.heap.size w w0.drew := (e0.mono l0).drew
    have BX : Blk w0.drew b x.cells 29 := B0.drew
    have c0 := B0.cell (i := 0) rfl
    have c1 := B0.cell (i := 1) rfl
    clear e0 B0 z0 l0
    go_region_with (first
      | (go_at_call_of 53 (Value.int IntKind.i64 2); refine (num2_walk x.lba _ N2).mono ?_; rintro r w2 ⟨q, rfl, tq, hb2⟩; have HB2 := HB.trans (hb2.mono HB.size); have BX2 := BX.below hb2 BX.lt; clear HB BX hb2; have HB := HB2; have BX := BX2; clear HB2 BX2; have c0 := BX.cell (i := 0) rfl; have c1 := BX.cell (i := 1) rfl; have hqs : q.size ≤ 2 := (by rw [tq.size, beBytes_length]; exact Nat.le_refl _); have TQ := Lib.hid tq; clear tq)
      | (go_at_call 53; refine (num1_walk 1 _ (.of1 (by omega))).mono ?_; rintro r w1 ⟨p, rfl, tp, hb1⟩; have HB1 := HB.trans (hb1.mono HB.size); have BX1 := BX.below hb1 BX.lt; clear HB BX hb1; have HB := HB1; have BX := BX1; clear HB1 BX1; have c0 := BX.cell (i := 0) rfl; have c1 := BX.cell (i := 1) rfl; have hps : p.size ≤ 1 := (by rw [tp.size, beBytes_length]; exact Nat.le_refl _); have TP := Lib.hid tp; clear tp)
      | fail)
    all_goals
      go_wp2_with fail
      go_ret
      exact ⟨_, rfl, by rw [HF.out]; exact (TP.out.append TQ.out).append (Txt.self x.hash), HB⟩
set_option maxHeartbeats 2000000 in
theorem paths27_walk (v : Value) (xs : List ByteArray) (w : World) (h : PRow w v xs) (hl : xs.length ≤ 12) (ha : all32 xs = true) :
    Calls Tryz.prog 59 #[v] w fun e w' => ∃ s, e = .returned (.string s) ∧ Txt s (pathL xs) ∧ Below w.heap.size w w' := by
  obtain ⟨p, c, rfl⟩ := h.shape
  obtain ⟨n, hn⟩ : ∃ n, n = xs.length := ⟨_, rfl⟩
  rw [← hn] at h hl ⊢
  have HN := Lib.hid hn; have H1 := Lib.hid h; have HA := Lib.hid ha
  clear hn h ha
  go_enter Tryz.func59, Tryz.ntmps59
  go_wp2_with fail
  refine (num1_walk n _ (.of1 (by omega))).mono ?_
  rintro e w1 ⟨r, rfl, tr, hb⟩
  have hr : r.size = 1 := by rw [tr.size, beBytes_length]
  have TR := Lib.hid tr; clear tr
  have HB := Lib.hid hb; clear hb
  go_wp2_with fail
  go_loopw [3, 4] (fun o i wr => ∃ (k : Nat) (t : ByteArray), k ≤ n ∧ i = .int .i64 k ∧ o = .string t ∧ t.size ≤ 1 + 32 * k ∧ Hid (Txt t (beBytes 1 n ++ ((xs.take k).map (·.data.toList)).flatten)) ∧ Hid (Below w.heap.size w wr)) (fun _ i _ => n - (intOf i).toNat)
  case atStart => exact ⟨0, r, by omega, rfl, rfl, by omega, Lib.hid (by simpa using TR.out), HB⟩
  case round =>
    obtain ⟨k, t, hk, rfl, rfl, hts, ht, hw⟩ := hrel
    have htI : (t.size : Int) ≤ 1 + 32 * k := by omega
    by_cases hlt : k < n
    · have hlt' : (k : Int) < n := by omega
      have h00 : (0 : Int) ≤ (k : Int) := by omega
      obtain ⟨x, hx⟩ : ∃ x, xs[k]? = some x := ⟨_, List.getElem?_eq_getElem (by rw [← HN.out]; exact hlt)⟩
      obtain ⟨g, o, hp, cx⟩ := (H1.out.below hw.out (Nat.le_refl _)).at HN.out hx
      subst hp
      have hx32 : x.size = 32 := all32_mem HA.out x (List.mem_of_getElem? hx)
      have hx33 : x.size ≤ 32 := by omega
      have HX := Lib.hid hx; clear hx hx32
      go_wp2_with fail
      go_roundw
      case rel =>
        refine ⟨k + 1, t ++ x, by omega, by go_num, rfl, by rw [ByteArray.size_append]; omega, ?_, hw⟩
        have e1 : ((xs.take (k + 1)).map (·.data.toList)).flatten = ((xs.take k).map (·.data.toList)).flatten ++ x.data.toList := by
          obtain ⟨hj, rfl⟩ := List.getElem?_eq_some_iff.1 HX.out
          rw [List.take_succ_eq_append_getElem hj, List.map_append, List.flatten_append]
          simp
        exact Lib.hid ((ht.out.append (Txt.self x)).cast (by rw [e1, List.append_assoc]))
      case measure => simp [intOf]; omega
    · obtain rfl : k = n := by omega
      go_wp2_with fail
      go_ret
      refine ⟨_, rfl, ?_, hw.out⟩
      refine ht.out.cast ?_
      unfold pathL
      rw [← HN.out, List.take_of_length_le (by rw [← HN.out]; exact Nat.le_refl _)]
end Go.Proofs.YtidekfbgjghcjaaGreat

