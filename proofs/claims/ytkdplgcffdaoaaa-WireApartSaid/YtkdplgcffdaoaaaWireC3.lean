/- Walk of wire.says, with its closures (chapter 27): may what a message's kind says be? It is wiped. -/
import Derived.Test.YtkdplgcffdaoaaaWireC2
import Derived.Test.YtkdplgcffdaoaaaTurn2
namespace Go.Proofs.Ytkdplgcffdaoaaa
set_option linter.unusedSimpArgs false
set_option linter.unusedVariables false
open Go Go.RowKit
set_option linter.unusedVariables false

/-- A message's numbers and texts are of machine size. -/
structure MsgTame (m : MsgD) : Prop where
  up : m.told.up.length ≤ 1048576
  left : m.told.left.length ≤ 1048576
  here : m.told.here.hash.size ≤ 1048576
  ahead : m.told.ahead.hash.size ≤ 1048576
  sroot : m.sld.r.root.size ≤ 1048576
  sname : m.sld.r.name.size ≤ 1048576
  sepoch : Fits m.sld.r.epoch
  rroot : m.rcp.r.root.size ≤ 1048576
  rname : m.rcp.r.name.size ≤ 1048576
  repoch : Fits m.rcp.r.epoch
  rseq : Fits m.rcp.seq
theorem hmakef3 : ∀ (fn : Fn) (first cap : Array Value) (w : World), (Instr.makeFunc fn first cap).run Try.prog w = .ok (.func fn first cap) w := fun _ _ _ _ => rfl
theorem only2 {x y : Nat} {u v w : World} (h : Only x u v) (k : Only y v w) : Turned [x, y] u w :=
  ⟨by rw [k.os, h.os], by rw [k.tape, h.tape], by rw [k.output, h.output], by rw [k.size, h.size]; exact Nat.le_refl _, fun i _ hn => by simp only [List.mem_cons, List.mem_nil_iff, or_false, not_or] at hn; rw [k.block i hn.2, h.block i hn.1]⟩
set_option maxHeartbeats 1000000 in
theorem saysE_walk (po pm b : Nat) (q : Bool) (m : MsgD) (u l : Value) (w : World) (hO : Blk w po [.bool q] 4) (hM : Blk w pm [.pointer (some ⟨b, 0, none⟩)] 71) (hB : Blk w b (m.cells u l) 39) (hpm : po ≠ pm) (hpb : po ≠ b) (hmb : pm ≠ b) :
    Calls Try.prog 48 #[.pointer (some ⟨po, 0, none⟩), .pointer (some ⟨pm, 0, none⟩)] w fun e w' =>
      e = .returned (.tuple #[]) ∧ Blk w' po [.bool (q && epochOk m.epoch)] 4 ∧ Blk w' b (({ m with epoch := 0 }).cells u l) 39 ∧ Blk w' pm [.pointer (some ⟨b, 0, none⟩)] 71 ∧ Turned [po, b] w w' := by
  have co := hO.cell (i := 0) rfl
  have cm := hM.cell (i := 0) rfl
  have cb := hB.cell (i := 1) rfl
  cases q with
  | false =>
    go_enter Try.func48, Try.ntmps48
    go_wp2_with (first
      | ((with_reducible refine wpList_store_at 4 (.tmp 0) (.tmp 9) po 0 (.bool false) _ _ hO (by simp) (by kernel_rfl) rfl ?hgd ?ho ?hx ?hy ?_); (case hgd => rfl); (case ho => rfl); (case hx => rfl); (case hy => rfl); (intro w1 B1 o1); have M1 := o1.blk hM hpm.symm; have BB1 := o1.blk hB hpb.symm; have m1 := M1.cell (i := 0) rfl)
      | ((with_reducible refine wpList_store_at 3 (.tmp 12) (.const (.int .i64 0)) b 1 (.int .i64 0) _ _ BB1 (Nat.le_of_ble_eq_true rfl) (by kernel_rfl) rfl ?hgd ?ho ?hx ?hy ?_); (case hgd => rfl); (case ho => rfl); (case hx => rfl); (case hy => rfl); (intro w2 B2 o2))
      | fail)
    first | go_end0 | ((try simp only [Exit.inBlock, Exit.then]); refine bodyPost_ret (results_none rfl _ _ _) rfl ?_)
    exact ⟨rfl, o2.blk B1 hpb, B2, o2.blk M1 hmb, only2 o1 o2⟩
  | true =>
    go_enter Try.func48, Try.ntmps48
    go_wp2_with (first
      | (go_at_call 49; refine (within27_walk _ _ _).mono ?_; rintro ew ww ⟨rfl, rfl⟩)
      | ((with_reducible refine wpList_store_at 4 (.tmp 0) (.tmp 9) po 0 (.bool (withinB m.epoch 4294967295)) _ _ hO (by simp) (by kernel_rfl) rfl ?hgd ?ho ?hx ?hy ?_); (case hgd => rfl); (case ho => rfl); (case hx => rfl); (case hy => rfl); (intro w1 B1 o1); have M1 := o1.blk hM hpm.symm; have BB1 := o1.blk hB hpb.symm; have m1 := M1.cell (i := 0) rfl)
      | ((with_reducible refine wpList_store_at 3 (.tmp 12) (.const (.int .i64 0)) b 1 (.int .i64 0) _ _ BB1 (Nat.le_of_ble_eq_true rfl) (by kernel_rfl) rfl ?hgd ?ho ?hx ?hy ?_); (case hgd => rfl); (case ho => rfl); (case hx => rfl); (case hy => rfl); (intro w2 B2 o2))
      | fail)
    first | go_end0 | ((try simp only [Exit.inBlock, Exit.then]); refine bodyPost_ret (results_none rfl _ _ _) rfl ?_)
    exact ⟨rfl, o2.blk B1 hpb, B2, o2.blk M1 hmb, only2 o1 o2⟩
set_option maxHeartbeats 1000000 in
theorem saysS_walk (most : Int) (po pm b : Nat) (q : Bool) (m : MsgD) (u l : Value) (w : World) (hO : Blk w po [.bool q] 4) (hM : Blk w pm [.pointer (some ⟨b, 0, none⟩)] 71) (hB : Blk w b (m.cells u l) 39) (hpm : po ≠ pm) (hpb : po ≠ b) (hmb : pm ≠ b) :
    Calls Try.prog 50 #[.int .i64 most, .pointer (some ⟨po, 0, none⟩), .pointer (some ⟨pm, 0, none⟩)] w fun e w' =>
      e = .returned (.tuple #[]) ∧ Blk w' po [.bool (q && withinB m.seq most)] 4 ∧ Blk w' b (({ m with seq := 0 }).cells u l) 39 ∧ Blk w' pm [.pointer (some ⟨b, 0, none⟩)] 71 ∧ Turned [po, b] w w' := by
  have co := hO.cell (i := 0) rfl
  have cm := hM.cell (i := 0) rfl
  have cb := hB.cell (i := 2) rfl
  cases q with
  | false =>
    go_enter Try.func50, Try.ntmps50
    go_wp2_with (first
      | ((with_reducible refine wpList_store_at 4 (.tmp 1) (.tmp 12) po 0 (.bool false) _ _ hO (by simp) (by kernel_rfl) rfl ?hgd ?ho ?hx ?hy ?_); (case hgd => rfl); (case ho => rfl); (case hx => rfl); (case hy => rfl); (intro w1 B1 o1); have M1 := o1.blk hM hpm.symm; have BB1 := o1.blk hB hpb.symm; have m1 := M1.cell (i := 0) rfl)
      | ((with_reducible refine wpList_store_at 3 (.tmp 15) (.const (.int .i64 0)) b 2 (.int .i64 0) _ _ BB1 (Nat.le_of_ble_eq_true rfl) (by kernel_rfl) rfl ?hgd ?ho ?hx ?hy ?_); (case hgd => rfl); (case ho => rfl); (case hx => rfl); (case hy => rfl); (intro w2 B2 o2))
      | fail)
    first | go_end0 | ((try simp only [Exit.inBlock, Exit.then]); refine bodyPost_ret (results_none rfl _ _ _) rfl ?_)
    exact ⟨rfl, o2.blk B1 hpb, B2, o2.blk M1 hmb, only2 o1 o2⟩
  | true =>
    go_enter Try.func50, Try.ntmps50
    go_wp2_with (first
      | (go_at_call 49; refine (within27_walk _ _ _).mono ?_; rintro ew ww ⟨rfl, rfl⟩)
      | ((with_reducible refine wpList_store_at 4 (.tmp 1) (.tmp 12) po 0 (.bool (withinB m.seq most)) _ _ hO (by simp) (by kernel_rfl) rfl ?hgd ?ho ?hx ?hy ?_); (case hgd => rfl); (case ho => rfl); (case hx => rfl); (case hy => rfl); (intro w1 B1 o1); have M1 := o1.blk hM hpm.symm; have BB1 := o1.blk hB hpb.symm; have m1 := M1.cell (i := 0) rfl)
      | ((with_reducible refine wpList_store_at 3 (.tmp 15) (.const (.int .i64 0)) b 2 (.int .i64 0) _ _ BB1 (Nat.le_of_ble_eq_true rfl) (by kernel_rfl) rfl ?hgd ?ho ?hx ?hy ?_); (case hgd => rfl); (case ho => rfl); (case hx => rfl); (case hy => rfl); (intro w2 B2 o2))
      | fail)
    first | go_end0 | ((try simp only [Exit.inBlock, Exit.then]); refine bodyPost_ret (results_none rfl _ _ _) rfl ?_)
    exact ⟨rfl, o2.blk B1 hpb, B2, o2.blk M1 hmb, only2 o1 o2⟩
/-- How says ends: what it says, and the message is wiped. -/
def SaysEnd (m : MsgD) (b : Nat) (w : World) (e : Ending) (w' : World) : Prop :=
  e = .returned (.bool (saysOk m)) ∧ ∃ u' l', Blk w' b ((wipe m).cells u' l') 39 ∧ Turned [b] w w' ∧ ((∃ (p : Option Addr) (c : Nat), u' = .slice p (wipe m).told.up.length c) ∧ ∃ (p : Option Addr) (c : Nat), l' = .slice p (wipe m).told.left.length c)
theorem shape_nil : ∃ (p : Option Addr) (c : Nat), (Value.slice none 0 0) = .slice p ([] : List ByteArray).length c := ⟨_, _, rfl⟩
theorem says4 (epoch seq : Int) (nonce tag last : ByteArray) (askE askL : Int) (sld : Sld) (told : ToldD) (rcp : Rcp) : saysOk ⟨4, epoch, seq, nonce, tag, last, askE, askL, sld, told, rcp⟩ = (epochOk epoch && withinB seq 4096 && decide (last.size = 32)) := by simp [saysOk, withinB]
theorem says6 (epoch seq : Int) (nonce tag last : ByteArray) (askE askL : Int) (sld : Sld) (told : ToldD) (rcp : Rcp) : saysOk ⟨6, epoch, seq, nonce, tag, last, askE, askL, sld, told, rcp⟩ = (withinB seq 4095 && recOk sld.r && decide (sld.tag.size = 32)) := by simp [saysOk, withinB]
def tzero : List Value := ToldD.zero.cells (.slice none 0 0) (.slice none 0 0)
theorem tzero_one : ∀ v ∈ tzero, v.oneCell' = true := by decide
theorem rsizeTold : (Try.prog.info? 35).map (·.size) = some tzero.length := by kernel_rfl
theorem rsizeTold' {t : ToldD} {u l : Value} : (Try.prog.info? 35).map (·.size) = some (t.cells u l).length := by kernel_rfl
theorem ask_one (e l : Int) : ∀ v ∈ ([.int .i64 e, .int .i64 l] : List Value), v.oneCell' = true := by
  intro v hv
  simp only [List.mem_cons, List.mem_nil_iff, or_false] at hv
  rcases hv with rfl | rfl <;> rfl
theorem MsgD.sldAt (m : MsgD) (u l : Value) : m.cells u l = (m.cells u l).take 8 ++ m.sld.cells ++ (m.cells u l).drop 17 := rfl
theorem MsgD.askAt (m : MsgD) (u l : Value) : m.cells u l = (m.cells u l).take 6 ++ [.int .i64 m.askE, .int .i64 m.askL] ++ (m.cells u l).drop 8 := rfl
theorem MsgD.toldAt (m : MsgD) (u l : Value) : m.cells u l = (m.cells u l).take 17 ++ m.told.cells u l ++ (m.cells u l).drop 30 := rfl
set_option maxRecDepth 100000 in
set_option maxHeartbeats 4000000 in
theorem says_1 (b : Nat) (epoch seq : Int) (nonce tag last : ByteArray) (askE askL : Int) (sld : Sld) (told : ToldD) (rcp : Rcp) (u l : Value) (w : World) (hB : Blk w b ((⟨1, epoch, seq, nonce, tag, last, askE, askL, sld, told, rcp⟩ : MsgD).cells u l) 39) (hu : PRow w u told.up) (hl : PRow w l told.left) (ht : MsgTame (⟨1, epoch, seq, nonce, tag, last, askE, askL, sld, told, rcp⟩ : MsgD)) :
    Calls Try.prog 32 #[.pointer (some ⟨b, 0, none⟩)] w (SaysEnd (⟨1, epoch, seq, nonce, tag, last, askE, askL, sld, told, rcp⟩ : MsgD) b w) := by
  have hmf := hmakef3
  have hsu := hu.shape
  have hsl := hl.shape
  go_enter Try.func32, Try.ntmps32
  go_wp2_with (first
    | ((with_reducible refine wpList_box_one 71 (.tmp 0) (.pointer (some ⟨b, 0, none⟩)) rfl (some 1) ?hgd ?ho ?hd ?hx ?_); (case hgd => rfl); (case ho => rfl); (case hd => rfl); (case hx => rfl); (intro b1 w1 l1 B1 e1 z1); have BB1 := hB.below e1 (Nat.lt_of_lt_of_le hB.lt l1))
    | ((with_reducible refine wpList_alloc_one 4 (.bool false) (by intro w; kernel_rfl) rfl (some 3) ?hgd ?ho ?hd ?_); (case hgd => rfl); (case ho => rfl); (case hd => rfl); (intro b2 w2 l2 B2 e2 z2); have M2 := B1.below e2 (Nat.lt_of_lt_of_le B1.lt l2); have BB2 := BB1.below e2 (Nat.lt_of_lt_of_le BB1.lt l2))
    | ((with_reducible refine wpList_store_at 4 (.tmp 3) (.const (.bool true)) b2 0 (.bool true) _ _ B2 (by simp) (by kernel_rfl) rfl ?hgd ?ho ?hx ?hy ?_); (case hgd => rfl); (case ho => rfl); (case hx => rfl); (case hy => rfl); (intro w3 B3 o3); have M3 := o3.blk M2 (by have := B1.lt; omega); have BB3 := o3.blk BB2 (by have := BB1.lt; omega); have kO3 := B3.cell (i := 0) rfl; have kM3 := M3.cell (i := 0) rfl; have kB3 := BB3.cell (i := 0) rfl)
    | fail
    | fail)
  have h12 : b2 ≠ b1 := by have := B1.lt; omega
  have h2b : b2 ≠ b := by have := BB1.lt; omega
  have h1b : b1 ≠ b := by have := hB.lt; omega
  have f1 : w.heap.size ≤ b1 := l1
  have f2 : w.heap.size ≤ b2 := by have := e1.size; omega
  have T3 : Turned [b] w w3 := ⟨by rw [o3.os, e2.os, e1.os], by rw [o3.tape, e2.tape, e1.tape], by rw [o3.output, e2.output, e1.output], by rw [o3.size]; have := e1.size; have := e2.size; omega, fun k hk hn => by rw [o3.block k (by omega), e2.block k (by have := e1.size; omega), e1.block k (by omega)]⟩
  have O3 := B3
  clear B1 B2 B3 BB1 BB2 M2 e1 e2 l1 l2 z1 z2 o3
  go_ret
  refine ⟨ret_b ?_, u, l, ?_, T3, ?_⟩
  · simp [saysOk]
  · have hw : wipe (⟨1, epoch, seq, nonce, tag, last, askE, askL, sld, told, rcp⟩ : MsgD) = (⟨1, epoch, seq, nonce, tag, last, askE, askL, sld, told, rcp⟩ : MsgD) := by simp [wipe]
    rw [hw]
    exact BB3
  · have hw : wipe (⟨1, epoch, seq, nonce, tag, last, askE, askL, sld, told, rcp⟩ : MsgD) = (⟨1, epoch, seq, nonce, tag, last, askE, askL, sld, told, rcp⟩ : MsgD) := by simp [wipe]
    rw [hw]
    exact ⟨hsu, hsl⟩
set_option maxRecDepth 100000 in
set_option maxHeartbeats 4000000 in
theorem says_2 (b : Nat) (epoch seq : Int) (nonce tag last : ByteArray) (askE askL : Int) (sld : Sld) (told : ToldD) (rcp : Rcp) (u l : Value) (w : World) (hB : Blk w b ((⟨2, epoch, seq, nonce, tag, last, askE, askL, sld, told, rcp⟩ : MsgD).cells u l) 39) (hu : PRow w u told.up) (hl : PRow w l told.left) (ht : MsgTame (⟨2, epoch, seq, nonce, tag, last, askE, askL, sld, told, rcp⟩ : MsgD)) :
    Calls Try.prog 32 #[.pointer (some ⟨b, 0, none⟩)] w (SaysEnd (⟨2, epoch, seq, nonce, tag, last, askE, askL, sld, told, rcp⟩ : MsgD) b w) := by
  have hmf := hmakef3
  have hsu := hu.shape
  have hsl := hl.shape
  go_enter Try.func32, Try.ntmps32
  go_wp2_with (first
    | ((with_reducible refine wpList_box_one 71 (.tmp 0) (.pointer (some ⟨b, 0, none⟩)) rfl (some 1) ?hgd ?ho ?hd ?hx ?_); (case hgd => rfl); (case ho => rfl); (case hd => rfl); (case hx => rfl); (intro b1 w1 l1 B1 e1 z1); have BB1 := hB.below e1 (Nat.lt_of_lt_of_le hB.lt l1))
    | ((with_reducible refine wpList_alloc_one 4 (.bool false) (by intro w; kernel_rfl) rfl (some 3) ?hgd ?ho ?hd ?_); (case hgd => rfl); (case ho => rfl); (case hd => rfl); (intro b2 w2 l2 B2 e2 z2); have M2 := B1.below e2 (Nat.lt_of_lt_of_le B1.lt l2); have BB2 := BB1.below e2 (Nat.lt_of_lt_of_le BB1.lt l2))
    | ((with_reducible refine wpList_store_at 4 (.tmp 3) (.const (.bool true)) b2 0 (.bool true) _ _ B2 (by simp) (by kernel_rfl) rfl ?hgd ?ho ?hx ?hy ?_); (case hgd => rfl); (case ho => rfl); (case hx => rfl); (case hy => rfl); (intro w3 B3 o3); have M3 := o3.blk M2 (by have := B1.lt; omega); have BB3 := o3.blk BB2 (by have := BB1.lt; omega); have kO3 := B3.cell (i := 0) rfl; have kM3 := M3.cell (i := 0) rfl; have kB3 := BB3.cell (i := 0) rfl)
    | fail
    | fail)
  have h12 : b2 ≠ b1 := by have := B1.lt; omega
  have h2b : b2 ≠ b := by have := BB1.lt; omega
  have h1b : b1 ≠ b := by have := hB.lt; omega
  have f1 : w.heap.size ≤ b1 := l1
  have f2 : w.heap.size ≤ b2 := by have := e1.size; omega
  have T3 : Turned [b] w w3 := ⟨by rw [o3.os, e2.os, e1.os], by rw [o3.tape, e2.tape, e1.tape], by rw [o3.output, e2.output, e1.output], by rw [o3.size]; have := e1.size; have := e2.size; omega, fun k hk hn => by rw [o3.block k (by omega), e2.block k (by have := e1.size; omega), e1.block k (by omega)]⟩
  have O3 := B3
  clear B1 B2 B3 BB1 BB2 M2 e1 e2 l1 l2 z1 z2 o3
  refine (saysE_walk b2 b1 b true (⟨2, epoch, seq, nonce, tag, last, askE, askL, sld, told, rcp⟩ : MsgD) u l _ O3 M3 BB3 h12 h2b h1b).mono ?_
  rintro e w4 ⟨rfl, O4, BB4, M4, t4⟩
  have T4 := T3.past t4 (fun x hx => by simp only [List.mem_cons, List.mem_nil_iff, or_false] at hx ⊢; omega)
  have kO4 := O4.cell (i := 0) rfl
  have kM4 := M4.cell (i := 0) rfl
  go_wp2_with fail
  go_ret
  refine ⟨ret_b ?_, u, l, ?_, T4, ?_⟩
  · simp [saysOk]
  · have hw : wipe (⟨2, epoch, seq, nonce, tag, last, askE, askL, sld, told, rcp⟩ : MsgD) = (⟨2, 0, seq, nonce, tag, last, askE, askL, sld, told, rcp⟩ : MsgD) := by simp [wipe]
    rw [hw]
    exact BB4
  · have hw : wipe (⟨2, epoch, seq, nonce, tag, last, askE, askL, sld, told, rcp⟩ : MsgD) = (⟨2, 0, seq, nonce, tag, last, askE, askL, sld, told, rcp⟩ : MsgD) := by simp [wipe]
    rw [hw]
    exact ⟨hsu, hsl⟩
set_option maxRecDepth 100000 in
set_option maxHeartbeats 4000000 in
theorem says_3 (b : Nat) (epoch seq : Int) (nonce tag last : ByteArray) (askE askL : Int) (sld : Sld) (told : ToldD) (rcp : Rcp) (u l : Value) (w : World) (hB : Blk w b ((⟨3, epoch, seq, nonce, tag, last, askE, askL, sld, told, rcp⟩ : MsgD).cells u l) 39) (hu : PRow w u told.up) (hl : PRow w l told.left) (ht : MsgTame (⟨3, epoch, seq, nonce, tag, last, askE, askL, sld, told, rcp⟩ : MsgD)) :
    Calls Try.prog 32 #[.pointer (some ⟨b, 0, none⟩)] w (SaysEnd (⟨3, epoch, seq, nonce, tag, last, askE, askL, sld, told, rcp⟩ : MsgD) b w) := by
  have hmf := hmakef3
  have hsu := hu.shape
  have hsl := hl.shape
  go_enter Try.func32, Try.ntmps32
  go_wp2_with (first
    | ((with_reducible refine wpList_box_one 71 (.tmp 0) (.pointer (some ⟨b, 0, none⟩)) rfl (some 1) ?hgd ?ho ?hd ?hx ?_); (case hgd => rfl); (case ho => rfl); (case hd => rfl); (case hx => rfl); (intro b1 w1 l1 B1 e1 z1); have BB1 := hB.below e1 (Nat.lt_of_lt_of_le hB.lt l1))
    | ((with_reducible refine wpList_alloc_one 4 (.bool false) (by intro w; kernel_rfl) rfl (some 3) ?hgd ?ho ?hd ?_); (case hgd => rfl); (case ho => rfl); (case hd => rfl); (intro b2 w2 l2 B2 e2 z2); have M2 := B1.below e2 (Nat.lt_of_lt_of_le B1.lt l2); have BB2 := BB1.below e2 (Nat.lt_of_lt_of_le BB1.lt l2))
    | ((with_reducible refine wpList_store_at 4 (.tmp 3) (.const (.bool true)) b2 0 (.bool true) _ _ B2 (by simp) (by kernel_rfl) rfl ?hgd ?ho ?hx ?hy ?_); (case hgd => rfl); (case ho => rfl); (case hx => rfl); (case hy => rfl); (intro w3 B3 o3); have M3 := o3.blk M2 (by have := B1.lt; omega); have BB3 := o3.blk BB2 (by have := BB1.lt; omega); have kO3 := B3.cell (i := 0) rfl; have kM3 := M3.cell (i := 0) rfl; have kB3 := BB3.cell (i := 0) rfl)
    | fail
    | fail)
  have h12 : b2 ≠ b1 := by have := B1.lt; omega
  have h2b : b2 ≠ b := by have := BB1.lt; omega
  have h1b : b1 ≠ b := by have := hB.lt; omega
  have f1 : w.heap.size ≤ b1 := l1
  have f2 : w.heap.size ≤ b2 := by have := e1.size; omega
  have T3 : Turned [b] w w3 := ⟨by rw [o3.os, e2.os, e1.os], by rw [o3.tape, e2.tape, e1.tape], by rw [o3.output, e2.output, e1.output], by rw [o3.size]; have := e1.size; have := e2.size; omega, fun k hk hn => by rw [o3.block k (by omega), e2.block k (by have := e1.size; omega), e1.block k (by omega)]⟩
  have O3 := B3
  clear B1 B2 B3 BB1 BB2 M2 e1 e2 l1 l2 z1 z2 o3
  refine (saysE_walk b2 b1 b true (⟨3, epoch, seq, nonce, tag, last, askE, askL, sld, told, rcp⟩ : MsgD) u l _ O3 M3 BB3 h12 h2b h1b).mono ?_
  rintro e w4 ⟨rfl, O4, BB4, M4, t4⟩
  have T4 := T3.past t4 (fun x hx => by simp only [List.mem_cons, List.mem_nil_iff, or_false] at hx ⊢; omega)
  have kO4 := O4.cell (i := 0) rfl
  have kM4 := M4.cell (i := 0) rfl
  go_wp2_with fail
  go_ret
  refine ⟨ret_b ?_, u, l, ?_, T4, ?_⟩
  · simp [saysOk]
  · have hw : wipe (⟨3, epoch, seq, nonce, tag, last, askE, askL, sld, told, rcp⟩ : MsgD) = (⟨3, 0, seq, nonce, tag, last, askE, askL, sld, told, rcp⟩ : MsgD) := by simp [wipe]
    rw [hw]
    exact BB4
  · have hw : wipe (⟨3, epoch, seq, nonce, tag, last, askE, askL, sld, told, rcp⟩ : MsgD) = (⟨3, 0, seq, nonce, tag, last, askE, askL, sld, told, rcp⟩ : MsgD) := by simp [wipe]
    rw [hw]
    exact ⟨hsu, hsl⟩
set_option maxRecDepth 100000 in
set_option maxHeartbeats 4000000 in
theorem says_5 (b : Nat) (epoch seq : Int) (nonce tag last : ByteArray) (askE askL : Int) (sld : Sld) (told : ToldD) (rcp : Rcp) (u l : Value) (w : World) (hB : Blk w b ((⟨5, epoch, seq, nonce, tag, last, askE, askL, sld, told, rcp⟩ : MsgD).cells u l) 39) (hu : PRow w u told.up) (hl : PRow w l told.left) (ht : MsgTame (⟨5, epoch, seq, nonce, tag, last, askE, askL, sld, told, rcp⟩ : MsgD)) :
    Calls Try.prog 32 #[.pointer (some ⟨b, 0, none⟩)] w (SaysEnd (⟨5, epoch, seq, nonce, tag, last, askE, askL, sld, told, rcp⟩ : MsgD) b w) := by
  have hmf := hmakef3
  have hsu := hu.shape
  have hsl := hl.shape
  go_enter Try.func32, Try.ntmps32
  go_wp2_with (first
    | ((with_reducible refine wpList_box_one 71 (.tmp 0) (.pointer (some ⟨b, 0, none⟩)) rfl (some 1) ?hgd ?ho ?hd ?hx ?_); (case hgd => rfl); (case ho => rfl); (case hd => rfl); (case hx => rfl); (intro b1 w1 l1 B1 e1 z1); have BB1 := hB.below e1 (Nat.lt_of_lt_of_le hB.lt l1))
    | ((with_reducible refine wpList_alloc_one 4 (.bool false) (by intro w; kernel_rfl) rfl (some 3) ?hgd ?ho ?hd ?_); (case hgd => rfl); (case ho => rfl); (case hd => rfl); (intro b2 w2 l2 B2 e2 z2); have M2 := B1.below e2 (Nat.lt_of_lt_of_le B1.lt l2); have BB2 := BB1.below e2 (Nat.lt_of_lt_of_le BB1.lt l2))
    | ((with_reducible refine wpList_store_at 4 (.tmp 3) (.const (.bool true)) b2 0 (.bool true) _ _ B2 (by simp) (by kernel_rfl) rfl ?hgd ?ho ?hx ?hy ?_); (case hgd => rfl); (case ho => rfl); (case hx => rfl); (case hy => rfl); (intro w3 B3 o3); have M3 := o3.blk M2 (by have := B1.lt; omega); have BB3 := o3.blk BB2 (by have := BB1.lt; omega); have kO3 := B3.cell (i := 0) rfl; have kM3 := M3.cell (i := 0) rfl; have kB3 := BB3.cell (i := 0) rfl)
    | fail
    | fail)
  have h12 : b2 ≠ b1 := by have := B1.lt; omega
  have h2b : b2 ≠ b := by have := BB1.lt; omega
  have h1b : b1 ≠ b := by have := hB.lt; omega
  have f1 : w.heap.size ≤ b1 := l1
  have f2 : w.heap.size ≤ b2 := by have := e1.size; omega
  have T3 : Turned [b] w w3 := ⟨by rw [o3.os, e2.os, e1.os], by rw [o3.tape, e2.tape, e1.tape], by rw [o3.output, e2.output, e1.output], by rw [o3.size]; have := e1.size; have := e2.size; omega, fun k hk hn => by rw [o3.block k (by omega), e2.block k (by have := e1.size; omega), e1.block k (by omega)]⟩
  have O3 := B3
  clear B1 B2 B3 BB1 BB2 M2 e1 e2 l1 l2 z1 z2 o3
  refine (saysS_walk 4095 b2 b1 b true (⟨5, epoch, seq, nonce, tag, last, askE, askL, sld, told, rcp⟩ : MsgD) u l _ O3 M3 BB3 h12 h2b h1b).mono ?_
  rintro e w4 ⟨rfl, O4, BB4, M4, t4⟩
  have T4 := T3.past t4 (fun x hx => by simp only [List.mem_cons, List.mem_nil_iff, or_false] at hx ⊢; omega)
  have kO4 := O4.cell (i := 0) rfl
  have kM4 := M4.cell (i := 0) rfl
  go_wp2_with fail
  go_ret
  refine ⟨ret_b ?_, u, l, ?_, T4, ?_⟩
  · simp [saysOk, withinB]
  · have hw : wipe (⟨5, epoch, seq, nonce, tag, last, askE, askL, sld, told, rcp⟩ : MsgD) = (⟨5, epoch, 0, nonce, tag, last, askE, askL, sld, told, rcp⟩ : MsgD) := by simp [wipe]
    rw [hw]
    exact BB4
  · have hw : wipe (⟨5, epoch, seq, nonce, tag, last, askE, askL, sld, told, rcp⟩ : MsgD) = (⟨5, epoch, 0, nonce, tag, last, askE, askL, sld, told, rcp⟩ : MsgD) := by simp [wipe]
    rw [hw]
    exact ⟨hsu, hsl⟩
set_option maxRecDepth 100000 in
set_option maxHeartbeats 4000000 in
theorem says_4 (b : Nat) (epoch seq : Int) (nonce tag last : ByteArray) (askE askL : Int) (sld : Sld) (told : ToldD) (rcp : Rcp) (u l : Value) (w : World) (hB : Blk w b ((⟨4, epoch, seq, nonce, tag, last, askE, askL, sld, told, rcp⟩ : MsgD).cells u l) 39) (hu : PRow w u told.up) (hl : PRow w l told.left) (ht : MsgTame (⟨4, epoch, seq, nonce, tag, last, askE, askL, sld, told, rcp⟩ : MsgD)) :
    Calls Try.prog 32 #[.pointer (some ⟨b, 0, none⟩)] w (SaysEnd (⟨4, epoch, seq, nonce, tag, last, askE, askL, sld, told, rcp⟩ : MsgD) b w) := by
  have hmf := hmakef3
  have hsu := hu.shape
  have hsl := hl.shape
  go_enter Try.func32, Try.ntmps32
  go_wp2_with (first
    | ((with_reducible refine wpList_box_one 71 (.tmp 0) (.pointer (some ⟨b, 0, none⟩)) rfl (some 1) ?hgd ?ho ?hd ?hx ?_); (case hgd => rfl); (case ho => rfl); (case hd => rfl); (case hx => rfl); (intro b1 w1 l1 B1 e1 z1); have BB1 := hB.below e1 (Nat.lt_of_lt_of_le hB.lt l1))
    | ((with_reducible refine wpList_alloc_one 4 (.bool false) (by intro w; kernel_rfl) rfl (some 3) ?hgd ?ho ?hd ?_); (case hgd => rfl); (case ho => rfl); (case hd => rfl); (intro b2 w2 l2 B2 e2 z2); have M2 := B1.below e2 (Nat.lt_of_lt_of_le B1.lt l2); have BB2 := BB1.below e2 (Nat.lt_of_lt_of_le BB1.lt l2))
    | ((with_reducible refine wpList_store_at 4 (.tmp 3) (.const (.bool true)) b2 0 (.bool true) _ _ B2 (by simp) (by kernel_rfl) rfl ?hgd ?ho ?hx ?hy ?_); (case hgd => rfl); (case ho => rfl); (case hx => rfl); (case hy => rfl); (intro w3 B3 o3); have M3 := o3.blk M2 (by have := B1.lt; omega); have BB3 := o3.blk BB2 (by have := BB1.lt; omega); have kO3 := B3.cell (i := 0) rfl; have kM3 := M3.cell (i := 0) rfl; have kB3 := BB3.cell (i := 0) rfl)
    | fail
    | fail)
  have h12 : b2 ≠ b1 := by have := B1.lt; omega
  have h2b : b2 ≠ b := by have := BB1.lt; omega
  have h1b : b1 ≠ b := by have := hB.lt; omega
  have f1 : w.heap.size ≤ b1 := l1
  have f2 : w.heap.size ≤ b2 := by have := e1.size; omega
  have T3 : Turned [b] w w3 := ⟨by rw [o3.os, e2.os, e1.os], by rw [o3.tape, e2.tape, e1.tape], by rw [o3.output, e2.output, e1.output], by rw [o3.size]; have := e1.size; have := e2.size; omega, fun k hk hn => by rw [o3.block k (by omega), e2.block k (by have := e1.size; omega), e1.block k (by omega)]⟩
  have O3 := B3
  clear B1 B2 B3 BB1 BB2 M2 e1 e2 l1 l2 z1 z2 o3
  refine (saysE_walk b2 b1 b true (⟨4, epoch, seq, nonce, tag, last, askE, askL, sld, told, rcp⟩ : MsgD) u l _ O3 M3 BB3 h12 h2b h1b).mono ?_
  rintro e w4 ⟨rfl, O4, BB4, M4, t4⟩
  have T4 := T3.past t4 (fun x hx => by simp only [List.mem_cons, List.mem_nil_iff, or_false] at hx ⊢; omega)
  have kO4 := O4.cell (i := 0) rfl
  have kM4 := M4.cell (i := 0) rfl
  go_wp2_with fail
  refine (saysS_walk 4096 b2 b1 b (true && epochOk epoch) (⟨4, 0, seq, nonce, tag, last, askE, askL, sld, told, rcp⟩ : MsgD) u l _ O4 M4 BB4 h12 h2b h1b).mono ?_
  rintro e w5 ⟨rfl, O5, BB5, M5, t5⟩
  have T5 := T4.past t5 (fun x hx => by simp only [List.mem_cons, List.mem_nil_iff, or_false] at hx ⊢; omega)
  have kO5 := O5.cell (i := 0) rfl
  have kM5 := M5.cell (i := 0) rfl
  obtain ⟨g, hg⟩ : ∃ g, g = (true && epochOk epoch && withinB seq 4096) := ⟨_, rfl⟩
  have HG := Lib.hid hg
  have O5' : Blk w5 b2 [.bool g] 4 := by rw [hg]; exact O5
  have kO : w5.cell? ⟨b2, 0, none⟩ = some (.bool g) := O5'.cell rfl
  have kl := BB5.cell (i := 5) rfl
  have HO := Lib.hid O5'; have HM5 := Lib.hid M5; have HBB := Lib.hid BB5; have HT := Lib.hid T5
  clear O5 O5' kO5 hg kO4 kM4 kO3 kM3 kB3 O4 M4 BB4 t4 t5 T4 O3 M3 BB3 T3 T5 M5 BB5
  cases g with
  | false =>
    go_wp2_with (first
      | ((with_reducible refine wpList_store_at 4 (.tmp 3) (.tmp 35) b2 0 (.bool false) _ _ HO.out (by simp) (by kernel_rfl) rfl ?hgd ?ho ?hx ?hy ?_); (case hgd => rfl); (case ho => rfl); (case hx => rfl); (case hy => rfl); (intro w6 B6 o6); have M6 := o6.blk HM5.out h12.symm; have BB6 := o6.blk HBB.out h2b.symm; have kM6 := M6.cell (i := 0) rfl; have kO6 := B6.cell (i := 0) rfl)
      | ((with_reducible refine wpList_store_at 9 (.tmp 38) (.const (.string ⟨#[]⟩)) b 5 (.string ⟨#[]⟩) _ _ BB6 (Nat.le_of_ble_eq_true rfl) (by kernel_rfl) rfl ?hgd ?ho ?hx ?hy ?_); (case hgd => rfl); (case ho => rfl); (case hx => rfl); (case hy => rfl); (intro w7 B7 o7); have kO7 := (o7.blk B6 h2b).cell (i := 0) rfl)
      | fail)
    go_ret
    refine ⟨ret_b ?_, u, l, ?_, (HT.out.past (only2 o6 o7) (fun x hx => by simp only [List.mem_cons, List.mem_nil_iff, or_false] at hx ⊢; omega)), ?_⟩
    · have h := HG.out; rw [Bool.true_and] at h; rw [says4, ← h]; rfl
    · have hw : wipe (⟨4, epoch, seq, nonce, tag, last, askE, askL, sld, told, rcp⟩ : MsgD) = (⟨4, 0, 0, nonce, tag, ⟨#[]⟩, askE, askL, sld, told, rcp⟩ : MsgD) := by simp [wipe]
      rw [hw]
      exact B7
    · have hw : wipe (⟨4, epoch, seq, nonce, tag, last, askE, askL, sld, told, rcp⟩ : MsgD) = (⟨4, 0, 0, nonce, tag, ⟨#[]⟩, askE, askL, sld, told, rcp⟩ : MsgD) := by simp [wipe]
      rw [hw]
      exact ⟨hsu, hsl⟩
  | true =>
    go_wp2_with (first
      | ((with_reducible refine wpList_slice_met 30 9 1 ?parts [.string last] (.string ⟨#[]⟩) 1 16 (some 33) Try.underlying30 infoStr27 (by omega) (by omega) ?hgd ?ho ?hd ?hf ?_); (case hgd => rfl); (case ho => rfl); (case hd => rfl); (case hf => kernel_rfl); (intro g6 w6 l6 B6 e6 z6); have O6 := HO.out.below e6 (Nat.lt_of_lt_of_le HO.out.lt l6); have M6 := HM5.out.below e6 (Nat.lt_of_lt_of_le HM5.out.lt l6); have BB6 := HBB.out.below e6 (Nat.lt_of_lt_of_le HBB.out.lt l6); have kM6 := M6.cell (i := 0) rfl; have T6 := HT.out.past (Turned.of_below (S := []) e6 l6) (fun x hx => by cases hx))
      | (go_at_call 33; refine (wide27_walk _ [last] _ (strRow_one B6) (by simp)).mono ?_; rintro ew ww ⟨rfl, rfl⟩; rw [all32_one])
      | ((with_reducible refine wpList_store_at 4 (.tmp 3) (.tmp 35) b2 0 (.bool (decide (last.size = 32))) _ _ O6 (by simp) (by kernel_rfl) rfl ?hgd ?ho ?hx ?hy ?_); (case hgd => rfl); (case ho => rfl); (case hx => rfl); (case hy => rfl); (intro w7 B7 o7); have M7 := o7.blk M6 h12.symm; have BB7 := o7.blk BB6 h2b.symm; have kM7 := M7.cell (i := 0) rfl; have kO7 := B7.cell (i := 0) rfl)
      | ((with_reducible refine wpList_store_at 9 (.tmp 38) (.const (.string ⟨#[]⟩)) b 5 (.string ⟨#[]⟩) _ _ BB7 (Nat.le_of_ble_eq_true rfl) (by kernel_rfl) rfl ?hgd ?ho ?hx ?hy ?_); (case hgd => rfl); (case ho => rfl); (case hx => rfl); (case hy => rfl); (intro w8 B8 o8); have kO8 := (o8.blk B7 h2b).cell (i := 0) rfl)
      | fail)
    go_ret
    refine ⟨ret_b ?_, u, l, ?_, (T6.past (only2 o7 o8) (fun x hx => by simp only [List.mem_cons, List.mem_nil_iff, or_false] at hx ⊢; omega)), ?_⟩
    · have h := HG.out; rw [Bool.true_and] at h; rw [says4, ← h]; rfl
    · have hw : wipe (⟨4, epoch, seq, nonce, tag, last, askE, askL, sld, told, rcp⟩ : MsgD) = (⟨4, 0, 0, nonce, tag, ⟨#[]⟩, askE, askL, sld, told, rcp⟩ : MsgD) := by simp [wipe]
      rw [hw]
      exact B8
    · have hw : wipe (⟨4, epoch, seq, nonce, tag, last, askE, askL, sld, told, rcp⟩ : MsgD) = (⟨4, 0, 0, nonce, tag, ⟨#[]⟩, askE, askL, sld, told, rcp⟩ : MsgD) := by simp [wipe]
      rw [hw]
      exact ⟨hsu, hsl⟩
set_option maxRecDepth 100000 in
set_option maxHeartbeats 4000000 in
theorem says_6 (b : Nat) (epoch seq : Int) (nonce tag last : ByteArray) (askE askL : Int) (sld : Sld) (told : ToldD) (rcp : Rcp) (u l : Value) (w : World) (hB : Blk w b ((⟨6, epoch, seq, nonce, tag, last, askE, askL, sld, told, rcp⟩ : MsgD).cells u l) 39) (hu : PRow w u told.up) (hl : PRow w l told.left) (ht : MsgTame (⟨6, epoch, seq, nonce, tag, last, askE, askL, sld, told, rcp⟩ : MsgD)) :
    Calls Try.prog 32 #[.pointer (some ⟨b, 0, none⟩)] w (SaysEnd (⟨6, epoch, seq, nonce, tag, last, askE, askL, sld, told, rcp⟩ : MsgD) b w) := by
  have hmf := hmakef3
  have hsu := hu.shape
  have hsl := hl.shape
  go_enter Try.func32, Try.ntmps32
  go_wp2_with (first
    | ((with_reducible refine wpList_box_one 71 (.tmp 0) (.pointer (some ⟨b, 0, none⟩)) rfl (some 1) ?hgd ?ho ?hd ?hx ?_); (case hgd => rfl); (case ho => rfl); (case hd => rfl); (case hx => rfl); (intro b1 w1 l1 B1 e1 z1); have BB1 := hB.below e1 (Nat.lt_of_lt_of_le hB.lt l1))
    | ((with_reducible refine wpList_alloc_one 4 (.bool false) (by intro w; kernel_rfl) rfl (some 3) ?hgd ?ho ?hd ?_); (case hgd => rfl); (case ho => rfl); (case hd => rfl); (intro b2 w2 l2 B2 e2 z2); have M2 := B1.below e2 (Nat.lt_of_lt_of_le B1.lt l2); have BB2 := BB1.below e2 (Nat.lt_of_lt_of_le BB1.lt l2))
    | ((with_reducible refine wpList_store_at 4 (.tmp 3) (.const (.bool true)) b2 0 (.bool true) _ _ B2 (by simp) (by kernel_rfl) rfl ?hgd ?ho ?hx ?hy ?_); (case hgd => rfl); (case ho => rfl); (case hx => rfl); (case hy => rfl); (intro w3 B3 o3); have M3 := o3.blk M2 (by have := B1.lt; omega); have BB3 := o3.blk BB2 (by have := BB1.lt; omega); have kO3 := B3.cell (i := 0) rfl; have kM3 := M3.cell (i := 0) rfl; have kB3 := BB3.cell (i := 0) rfl)
    | fail
    | fail)
  have h12 : b2 ≠ b1 := by have := B1.lt; omega
  have h2b : b2 ≠ b := by have := BB1.lt; omega
  have h1b : b1 ≠ b := by have := hB.lt; omega
  have f1 : w.heap.size ≤ b1 := l1
  have f2 : w.heap.size ≤ b2 := by have := e1.size; omega
  have T3 : Turned [b] w w3 := ⟨by rw [o3.os, e2.os, e1.os], by rw [o3.tape, e2.tape, e1.tape], by rw [o3.output, e2.output, e1.output], by rw [o3.size]; have := e1.size; have := e2.size; omega, fun k hk hn => by rw [o3.block k (by omega), e2.block k (by have := e1.size; omega), e1.block k (by omega)]⟩
  have O3 := B3
  clear B1 B2 B3 BB1 BB2 M2 e1 e2 l1 l2 z1 z2 o3
  refine (saysS_walk 4095 b2 b1 b true (⟨6, epoch, seq, nonce, tag, last, askE, askL, sld, told, rcp⟩ : MsgD) u l _ O3 M3 BB3 h12 h2b h1b).mono ?_
  rintro e w4 ⟨rfl, O4, BB4, M4, t4⟩
  have T4 := T3.past t4 (fun x hx => by simp only [List.mem_cons, List.mem_nil_iff, or_false] at hx ⊢; omega)
  have kO4 := O4.cell (i := 0) rfl
  have kM4 := M4.cell (i := 0) rfl
  obtain ⟨g, hg⟩ : ∃ g, g = (true && withinB seq 4095) := ⟨_, rfl⟩
  have HG := Lib.hid hg
  have O4' : Blk w4 b2 [.bool g] 4 := by rw [hg]; exact O4
  have kO : w4.cell? ⟨b2, 0, none⟩ = some (.bool g) := O4'.cell rfl
  have RR : w4.rangeAt b 8 sld.r.cells := (BB4.ext (MsgD.recAt (⟨6, epoch, 0, nonce, tag, last, askE, askL, sld, told, rcp⟩ : MsgD) u l)).part rfl
  have kt := BB4.cell (i := 16) rfl
  have HO := Lib.hid O4'; have HM4 := Lib.hid M4; have HBB := Lib.hid BB4; have HT := Lib.hid T4
  clear O4 O4' kO4 hg kO3 kM3 kB3 t4 O3 M3 BB3 T3 T4 M4 BB4
  cases g with
  | false =>
    go_wp2_with (first
      | ((with_reducible refine wpList_store_at 4 (.tmp 3) (.tmp 65) b2 0 (.bool false) _ _ HO.out (by simp) (by kernel_rfl) rfl ?hgd ?ho ?hx ?hy ?_); (case hgd => rfl); (case ho => rfl); (case hx => rfl); (case hy => rfl); (intro w5 B5 o5); have M5 := o5.blk HM4.out h12.symm; have BB5 := o5.blk HBB.out h2b.symm; have kM5 := M5.cell (i := 0) rfl; have kO5 := B5.cell (i := 0) rfl)
      | ((with_reducible refine wpList_store_part 27 (.tmp 69) (.tmp 67) b 8 Sld.zero.cells _ _ BB5 (Nat.le_of_ble_eq_true rfl) rsizeSld' (Sld.cells_one _) ?hgd ?ho ?hx ?hy ?_); (case hgd => rfl); (case ho => rfl); (case hx => rfl); (case hy => rfl); (intro w6 B6 o6); replace B6 : Blk w6 b ((⟨6, epoch, 0, nonce, tag, last, askE, askL, Sld.zero, told, rcp⟩ : MsgD).cells u l) 39 := B6; have kO6 := (o6.blk B5 h2b).cell (i := 0) rfl)
      | fail)
    go_ret
    refine ⟨ret_b ?_, u, l, ?_, (HT.out.past (only2 o5 o6) (fun x hx => by simp only [List.mem_cons, List.mem_nil_iff, or_false] at hx ⊢; omega)), ?_⟩
    · have h := HG.out; rw [Bool.true_and] at h; rw [says6, ← h]; rfl
    · have hw : wipe (⟨6, epoch, seq, nonce, tag, last, askE, askL, sld, told, rcp⟩ : MsgD) = (⟨6, epoch, 0, nonce, tag, last, askE, askL, Sld.zero, told, rcp⟩ : MsgD) := by simp [wipe]
      rw [hw]
      exact B6
    · have hw : wipe (⟨6, epoch, seq, nonce, tag, last, askE, askL, sld, told, rcp⟩ : MsgD) = (⟨6, epoch, 0, nonce, tag, last, askE, askL, Sld.zero, told, rcp⟩ : MsgD) := by simp [wipe]
      rw [hw]
      exact ⟨hsu, hsl⟩
  | true =>
    go_wp2_with (first
      | ((with_reducible refine wpList_load_met 25 (.tmp 52) b 8 sld.r.cells _ (some 53) (RR) Try.underlying25 rfl rsizeRec ?hg ?ho ?hds ?hx ?_); (case hg => rfl); (case ho => rfl); (case hds => rfl); (case hx => rfl))
      | fail)
    refine (check_walk sld.r _ (Nat.le_trans ht.sname (by omega)) ht.sepoch).mono ?_
    rintro e w5 ⟨rfl, hb5⟩
    have O5 := HO.out.below hb5 HO.out.lt
    have M5 := HM4.out.below hb5 HM4.out.lt
    have BB5 := HBB.out.below hb5 HBB.out.lt
    have T5 := HT.out.past (Turned.of_below (S := []) hb5 (Nat.le_refl _)) (fun x hx => by cases hx)
    have kM5 := M5.cell (i := 0) rfl
    have kO5 := O5.cell (i := 0) rfl
    have kt5 := BB5.cell (i := 16) rfl
    clear hb5
    cases hok : recOk sld.r with
    | false =>
      rw [chkI_no hok]
      go_wp2_with (first
        | ((with_reducible refine wpList_store_at 4 (.tmp 3) (.tmp 65) b2 0 (.bool false) _ _ O5 (by simp) (by kernel_rfl) rfl ?hgd ?ho ?hx ?hy ?_); (case hgd => rfl); (case ho => rfl); (case hx => rfl); (case hy => rfl); (intro w6 B6 o6); have M6 := o6.blk M5 h12.symm; have BB6 := o6.blk BB5 h2b.symm; have kM6 := M6.cell (i := 0) rfl; have kO6 := B6.cell (i := 0) rfl)
        | ((with_reducible refine wpList_store_part 27 (.tmp 69) (.tmp 67) b 8 Sld.zero.cells _ _ BB6 (Nat.le_of_ble_eq_true rfl) rsizeSld' (Sld.cells_one _) ?hgd ?ho ?hx ?hy ?_); (case hgd => rfl); (case ho => rfl); (case hx => rfl); (case hy => rfl); (intro w7 B7 o7); replace B7 : Blk w7 b ((⟨6, epoch, 0, nonce, tag, last, askE, askL, Sld.zero, told, rcp⟩ : MsgD).cells u l) 39 := B7; have kO7 := (o7.blk B6 h2b).cell (i := 0) rfl)
        | fail)
      go_ret
      refine ⟨ret_b ?_, u, l, ?_, (T5.past (only2 o6 o7) (fun x hx => by simp only [List.mem_cons, List.mem_nil_iff, or_false] at hx ⊢; omega)), ?_⟩
      · have h := HG.out; rw [Bool.true_and] at h; rw [says6, ← h, hok]; rfl
      · have hw : wipe (⟨6, epoch, seq, nonce, tag, last, askE, askL, sld, told, rcp⟩ : MsgD) = (⟨6, epoch, 0, nonce, tag, last, askE, askL, Sld.zero, told, rcp⟩ : MsgD) := by simp [wipe]
        rw [hw]
        exact B7
      · have hw : wipe (⟨6, epoch, seq, nonce, tag, last, askE, askL, sld, told, rcp⟩ : MsgD) = (⟨6, epoch, 0, nonce, tag, last, askE, askL, Sld.zero, told, rcp⟩ : MsgD) := by simp [wipe]
        rw [hw]
        exact ⟨hsu, hsl⟩
    | true =>
      rw [chkI_yes hok]
      go_wp2_with (first
        | ((with_reducible refine wpList_slice_met 30 9 1 ?parts [.string sld.tag] (.string ⟨#[]⟩) 1 16 (some 63) Try.underlying30 infoStr27 (by omega) (by omega) ?hgd ?ho ?hd ?hf ?_); (case hgd => rfl); (case ho => rfl); (case hd => rfl); (case hf => kernel_rfl); (intro g6 w6 l6 B6 e6 z6); have O6 := O5.below e6 (Nat.lt_of_lt_of_le O5.lt l6); have M6 := M5.below e6 (Nat.lt_of_lt_of_le M5.lt l6); have BB6 := BB5.below e6 (Nat.lt_of_lt_of_le BB5.lt l6); have kM6 := M6.cell (i := 0) rfl; have T6 := T5.past (Turned.of_below (S := []) e6 l6) (fun x hx => by cases hx))
        | (go_at_call 33; refine (wide27_walk _ [sld.tag] _ (strRow_one B6) (by simp)).mono ?_; rintro ew ww ⟨rfl, rfl⟩; rw [all32_one])
        | ((with_reducible refine wpList_store_at 4 (.tmp 3) (.tmp 65) b2 0 (.bool (decide (sld.tag.size = 32))) _ _ O6 (by simp) (by kernel_rfl) rfl ?hgd ?ho ?hx ?hy ?_); (case hgd => rfl); (case ho => rfl); (case hx => rfl); (case hy => rfl); (intro w7 B7 o7); have M7 := o7.blk M6 h12.symm; have BB7 := o7.blk BB6 h2b.symm; have kM7 := M7.cell (i := 0) rfl; have kO7 := B7.cell (i := 0) rfl)
        | ((with_reducible refine wpList_store_part 27 (.tmp 69) (.tmp 67) b 8 Sld.zero.cells _ _ BB7 (Nat.le_of_ble_eq_true rfl) rsizeSld' (Sld.cells_one _) ?hgd ?ho ?hx ?hy ?_); (case hgd => rfl); (case ho => rfl); (case hx => rfl); (case hy => rfl); (intro w8 B8 o8); replace B8 : Blk w8 b ((⟨6, epoch, 0, nonce, tag, last, askE, askL, Sld.zero, told, rcp⟩ : MsgD).cells u l) 39 := B8; have kO8 := (o8.blk B7 h2b).cell (i := 0) rfl)
        | fail)
      go_ret
      refine ⟨ret_b ?_, u, l, ?_, (T6.past (only2 o7 o8) (fun x hx => by simp only [List.mem_cons, List.mem_nil_iff, or_false] at hx ⊢; omega)), ?_⟩
      · have h := HG.out; rw [Bool.true_and] at h; rw [says6, ← h, hok]; rfl
      · have hw : wipe (⟨6, epoch, seq, nonce, tag, last, askE, askL, sld, told, rcp⟩ : MsgD) = (⟨6, epoch, 0, nonce, tag, last, askE, askL, Sld.zero, told, rcp⟩ : MsgD) := by simp [wipe]
        rw [hw]
        exact B8
      · have hw : wipe (⟨6, epoch, seq, nonce, tag, last, askE, askL, sld, told, rcp⟩ : MsgD) = (⟨6, epoch, 0, nonce, tag, last, askE, askL, Sld.zero, told, rcp⟩ : MsgD) := by simp [wipe]
        rw [hw]
        exact ⟨hsu, hsl⟩
set_option maxRecDepth 100000 in
set_option maxHeartbeats 4000000 in
theorem says_7 (b : Nat) (epoch seq : Int) (nonce tag last : ByteArray) (askE askL : Int) (sld : Sld) (told : ToldD) (rcp : Rcp) (u l : Value) (w : World) (hB : Blk w b ((⟨7, epoch, seq, nonce, tag, last, askE, askL, sld, told, rcp⟩ : MsgD).cells u l) 39) (hu : PRow w u told.up) (hl : PRow w l told.left) (ht : MsgTame (⟨7, epoch, seq, nonce, tag, last, askE, askL, sld, told, rcp⟩ : MsgD)) :
    Calls Try.prog 32 #[.pointer (some ⟨b, 0, none⟩)] w (SaysEnd (⟨7, epoch, seq, nonce, tag, last, askE, askL, sld, told, rcp⟩ : MsgD) b w) := by
  have hmf := hmakef3
  have hsu := hu.shape
  have hsl := hl.shape
  go_enter Try.func32, Try.ntmps32
  go_wp2_with (first
    | ((with_reducible refine wpList_box_one 71 (.tmp 0) (.pointer (some ⟨b, 0, none⟩)) rfl (some 1) ?hgd ?ho ?hd ?hx ?_); (case hgd => rfl); (case ho => rfl); (case hd => rfl); (case hx => rfl); (intro b1 w1 l1 B1 e1 z1); have BB1 := hB.below e1 (Nat.lt_of_lt_of_le hB.lt l1))
    | ((with_reducible refine wpList_alloc_one 4 (.bool false) (by intro w; kernel_rfl) rfl (some 3) ?hgd ?ho ?hd ?_); (case hgd => rfl); (case ho => rfl); (case hd => rfl); (intro b2 w2 l2 B2 e2 z2); have M2 := B1.below e2 (Nat.lt_of_lt_of_le B1.lt l2); have BB2 := BB1.below e2 (Nat.lt_of_lt_of_le BB1.lt l2))
    | ((with_reducible refine wpList_store_at 4 (.tmp 3) (.const (.bool true)) b2 0 (.bool true) _ _ B2 (by simp) (by kernel_rfl) rfl ?hgd ?ho ?hx ?hy ?_); (case hgd => rfl); (case ho => rfl); (case hx => rfl); (case hy => rfl); (intro w3 B3 o3); have M3 := o3.blk M2 (by have := B1.lt; omega); have BB3 := o3.blk BB2 (by have := BB1.lt; omega); have kO3 := B3.cell (i := 0) rfl; have kM3 := M3.cell (i := 0) rfl; have kB3 := BB3.cell (i := 0) rfl)
    | ((with_reducible refine wpList_load_met 23 (.tmp 74) b 6 [.int .i64 askE, .int .i64 askL] _ (some 75) ((BB3.ext (MsgD.askAt (⟨7, epoch, seq, nonce, tag, last, askE, askL, sld, told, rcp⟩ : MsgD) u l)).part (off := 6) rfl) Try.underlying23 rfl rsizeAsk ?hg ?ho ?hds ?hx ?_); (case hg => rfl); (case ho => rfl); (case hds => rfl); (case hx => rfl))
    | fail)
  have h12 : b2 ≠ b1 := by have := B1.lt; omega
  have h2b : b2 ≠ b := by have := BB1.lt; omega
  have h1b : b1 ≠ b := by have := hB.lt; omega
  have f1 : w.heap.size ≤ b1 := l1
  have f2 : w.heap.size ≤ b2 := by have := e1.size; omega
  have T3 : Turned [b] w w3 := ⟨by rw [o3.os, e2.os, e1.os], by rw [o3.tape, e2.tape, e1.tape], by rw [o3.output, e2.output, e1.output], by rw [o3.size]; have := e1.size; have := e2.size; omega, fun k hk hn => by rw [o3.block k (by omega), e2.block k (by have := e1.size; omega), e1.block k (by omega)]⟩
  have O3 := B3
  clear B1 B2 B3 BB1 BB2 M2 e1 e2 l1 l2 z1 z2 o3
  refine (ask27_walk askE askL _).mono ?_
  rintro e w4 ⟨rfl, hb4⟩
  have O4 := O3.below hb4 O3.lt
  have M4 := M3.below hb4 M3.lt
  have BB4 := BB3.below hb4 BB3.lt
  have T4 := T3.past (Turned.of_below (S := []) hb4 (Nat.le_refl _)) (fun x hx => by cases hx)
  have kM4 := M4.cell (i := 0) rfl
  have kO4 := O4.cell (i := 0) rfl
  clear hb4
  go_wp2_with (first
    | ((with_reducible refine wpList_store_at 4 (.tmp 3) (.tmp 76) b2 0 (.bool (askOk askE askL)) _ _ O4 (by simp) (by kernel_rfl) rfl ?hgd ?ho ?hx ?hy ?_); (case hgd => rfl); (case ho => rfl); (case hx => rfl); (case hy => rfl); (intro w5 B5 o5); have M5 := o5.blk M4 h12.symm; have BB5 := o5.blk BB4 h2b.symm; have kM5 := M5.cell (i := 0) rfl; have kO5 := B5.cell (i := 0) rfl)
    | ((with_reducible refine wpList_store_part 23 (.tmp 80) (.tmp 78) b 6 [.int .i64 0, .int .i64 0] _ _ BB5 (Nat.le_of_ble_eq_true rfl) rsizeAsk (ask_one 0 0) ?hgd ?ho ?hx ?hy ?_); (case hgd => rfl); (case ho => rfl); (case hx => rfl); (case hy => rfl); (intro w6 B6 o6); replace B6 : Blk w6 b ((⟨7, epoch, seq, nonce, tag, last, 0, 0, sld, told, rcp⟩ : MsgD).cells u l) 39 := B6; have kO6 := (o6.blk B5 h2b).cell (i := 0) rfl)
    | fail)
  go_ret
  refine ⟨ret_b ?_, u, l, ?_, (T4.past (only2 o5 o6) (fun x hx => by simp only [List.mem_cons, List.mem_nil_iff, or_false] at hx ⊢; omega)), ?_⟩
  · simp [saysOk]
  · have hw : wipe (⟨7, epoch, seq, nonce, tag, last, askE, askL, sld, told, rcp⟩ : MsgD) = (⟨7, epoch, seq, nonce, tag, last, 0, 0, sld, told, rcp⟩ : MsgD) := by simp [wipe]
    rw [hw]
    exact B6
  · have hw : wipe (⟨7, epoch, seq, nonce, tag, last, askE, askL, sld, told, rcp⟩ : MsgD) = (⟨7, epoch, seq, nonce, tag, last, 0, 0, sld, told, rcp⟩ : MsgD) := by simp [wipe]
    rw [hw]
    exact ⟨hsu, hsl⟩
set_option maxRecDepth 100000 in
set_option maxHeartbeats 4000000 in
theorem says_8 (b : Nat) (epoch seq : Int) (nonce tag last : ByteArray) (askE askL : Int) (sld : Sld) (told : ToldD) (rcp : Rcp) (u l : Value) (w : World) (hB : Blk w b ((⟨8, epoch, seq, nonce, tag, last, askE, askL, sld, told, rcp⟩ : MsgD).cells u l) 39) (hu : PRow w u told.up) (hl : PRow w l told.left) (ht : MsgTame (⟨8, epoch, seq, nonce, tag, last, askE, askL, sld, told, rcp⟩ : MsgD)) :
    Calls Try.prog 32 #[.pointer (some ⟨b, 0, none⟩)] w (SaysEnd (⟨8, epoch, seq, nonce, tag, last, askE, askL, sld, told, rcp⟩ : MsgD) b w) := by
  have hmf := hmakef3
  have hsu := hu.shape
  have hsl := hl.shape
  go_enter Try.func32, Try.ntmps32
  go_wp2_with (first
    | ((with_reducible refine wpList_box_one 71 (.tmp 0) (.pointer (some ⟨b, 0, none⟩)) rfl (some 1) ?hgd ?ho ?hd ?hx ?_); (case hgd => rfl); (case ho => rfl); (case hd => rfl); (case hx => rfl); (intro b1 w1 l1 B1 e1 z1); have BB1 := hB.below e1 (Nat.lt_of_lt_of_le hB.lt l1))
    | ((with_reducible refine wpList_alloc_one 4 (.bool false) (by intro w; kernel_rfl) rfl (some 3) ?hgd ?ho ?hd ?_); (case hgd => rfl); (case ho => rfl); (case hd => rfl); (intro b2 w2 l2 B2 e2 z2); have M2 := B1.below e2 (Nat.lt_of_lt_of_le B1.lt l2); have BB2 := BB1.below e2 (Nat.lt_of_lt_of_le BB1.lt l2))
    | ((with_reducible refine wpList_store_at 4 (.tmp 3) (.const (.bool true)) b2 0 (.bool true) _ _ B2 (by simp) (by kernel_rfl) rfl ?hgd ?ho ?hx ?hy ?_); (case hgd => rfl); (case ho => rfl); (case hx => rfl); (case hy => rfl); (intro w3 B3 o3); have M3 := o3.blk M2 (by have := B1.lt; omega); have BB3 := o3.blk BB2 (by have := BB1.lt; omega); have kO3 := B3.cell (i := 0) rfl; have kM3 := M3.cell (i := 0) rfl; have kB3 := BB3.cell (i := 0) rfl)
    | ((with_reducible refine wpList_load_met 35 (.tmp 85) b 17 (told.cells u l) _ (some 86) ((BB3.ext (MsgD.toldAt (⟨8, epoch, seq, nonce, tag, last, askE, askL, sld, told, rcp⟩ : MsgD) u l)).part (off := 17) rfl) Try.underlying35 rfl rsizeTold' ?hg ?ho ?hds ?hx ?_); (case hg => rfl); (case ho => rfl); (case hds => rfl); (case hx => rfl))
    | fail)
  have h12 : b2 ≠ b1 := by have := B1.lt; omega
  have h2b : b2 ≠ b := by have := BB1.lt; omega
  have h1b : b1 ≠ b := by have := hB.lt; omega
  have f1 : w.heap.size ≤ b1 := l1
  have f2 : w.heap.size ≤ b2 := by have := e1.size; omega
  have T3 : Turned [b] w w3 := ⟨by rw [o3.os, e2.os, e1.os], by rw [o3.tape, e2.tape, e1.tape], by rw [o3.output, e2.output, e1.output], by rw [o3.size]; have := e1.size; have := e2.size; omega, fun k hk hn => by rw [o3.block k (by omega), e2.block k (by have := e1.size; omega), e1.block k (by omega)]⟩
  have O3 := B3
  have T3b : Below w.heap.size w w3 := ⟨T3.os, T3.tape, T3.output, T3.size, fun k hk => by rw [o3.block k (by omega), e2.block k (by have := e1.size; omega), e1.block k (by omega)]⟩
  clear B1 B2 B3 BB1 BB2 M2 e1 e2 l1 l2 z1 z2 o3
  refine (told27_walk told u l _ (hu.below T3b (Nat.le_refl _)) (hl.below T3b (Nat.le_refl _)) ht.up ht.left ht.here ht.ahead).mono ?_
  rintro e w4 ⟨rfl, hb4⟩
  have O4 := O3.below hb4 O3.lt
  have M4 := M3.below hb4 M3.lt
  have BB4 := BB3.below hb4 BB3.lt
  have T4 := T3.past (Turned.of_below (S := []) hb4 (Nat.le_refl _)) (fun x hx => by cases hx)
  have kM4 := M4.cell (i := 0) rfl
  have kO4 := O4.cell (i := 0) rfl
  clear hb4
  go_wp2_with (first
    | ((with_reducible refine wpList_store_at 4 (.tmp 3) (.tmp 87) b2 0 (.bool (toldOk told)) _ _ O4 (by simp) (by kernel_rfl) rfl ?hgd ?ho ?hx ?hy ?_); (case hgd => rfl); (case ho => rfl); (case hx => rfl); (case hy => rfl); (intro w5 B5 o5); have M5 := o5.blk M4 h12.symm; have BB5 := o5.blk BB4 h2b.symm; have kM5 := M5.cell (i := 0) rfl; have kO5 := B5.cell (i := 0) rfl)
    | ((with_reducible refine wpList_store_part 35 (.tmp 91) (.tmp 89) b 17 tzero _ _ BB5 (Nat.le_of_ble_eq_true rfl) rsizeTold tzero_one ?hgd ?ho ?hx ?hy ?_); (case hgd => rfl); (case ho => rfl); (case hx => rfl); (case hy => rfl); (intro w6 B6 o6); replace B6 : Blk w6 b ((⟨8, epoch, seq, nonce, tag, last, askE, askL, sld, ToldD.zero, rcp⟩ : MsgD).cells (.slice none 0 0) (.slice none 0 0)) 39 := B6; have kO6 := (o6.blk B5 h2b).cell (i := 0) rfl)
    | fail)
  go_ret
  refine ⟨ret_b ?_, (.slice none 0 0), (.slice none 0 0), ?_, (T4.past (only2 o5 o6) (fun x hx => by simp only [List.mem_cons, List.mem_nil_iff, or_false] at hx ⊢; omega)), ?_⟩
  · simp [saysOk]
  · have hw : wipe (⟨8, epoch, seq, nonce, tag, last, askE, askL, sld, told, rcp⟩ : MsgD) = (⟨8, epoch, seq, nonce, tag, last, askE, askL, sld, ToldD.zero, rcp⟩ : MsgD) := by simp [wipe]
    rw [hw]
    exact B6
  · have hw : wipe (⟨8, epoch, seq, nonce, tag, last, askE, askL, sld, told, rcp⟩ : MsgD) = (⟨8, epoch, seq, nonce, tag, last, askE, askL, sld, ToldD.zero, rcp⟩ : MsgD) := by simp [wipe]
    rw [hw]
    exact ⟨shape_nil, shape_nil⟩
set_option maxRecDepth 100000 in
set_option maxHeartbeats 4000000 in
theorem says_10 (b : Nat) (epoch seq : Int) (nonce tag last : ByteArray) (askE askL : Int) (sld : Sld) (told : ToldD) (rcp : Rcp) (u l : Value) (w : World) (hB : Blk w b ((⟨10, epoch, seq, nonce, tag, last, askE, askL, sld, told, rcp⟩ : MsgD).cells u l) 39) (hu : PRow w u told.up) (hl : PRow w l told.left) (ht : MsgTame (⟨10, epoch, seq, nonce, tag, last, askE, askL, sld, told, rcp⟩ : MsgD)) :
    Calls Try.prog 32 #[.pointer (some ⟨b, 0, none⟩)] w (SaysEnd (⟨10, epoch, seq, nonce, tag, last, askE, askL, sld, told, rcp⟩ : MsgD) b w) := by
  have hmf := hmakef3
  have hsu := hu.shape
  have hsl := hl.shape
  go_enter Try.func32, Try.ntmps32
  go_wp2_with (first
    | ((with_reducible refine wpList_box_one 71 (.tmp 0) (.pointer (some ⟨b, 0, none⟩)) rfl (some 1) ?hgd ?ho ?hd ?hx ?_); (case hgd => rfl); (case ho => rfl); (case hd => rfl); (case hx => rfl); (intro b1 w1 l1 B1 e1 z1); have BB1 := hB.below e1 (Nat.lt_of_lt_of_le hB.lt l1))
    | ((with_reducible refine wpList_alloc_one 4 (.bool false) (by intro w; kernel_rfl) rfl (some 3) ?hgd ?ho ?hd ?_); (case hgd => rfl); (case ho => rfl); (case hd => rfl); (intro b2 w2 l2 B2 e2 z2); have M2 := B1.below e2 (Nat.lt_of_lt_of_le B1.lt l2); have BB2 := BB1.below e2 (Nat.lt_of_lt_of_le BB1.lt l2))
    | ((with_reducible refine wpList_store_at 4 (.tmp 3) (.const (.bool true)) b2 0 (.bool true) _ _ B2 (by simp) (by kernel_rfl) rfl ?hgd ?ho ?hx ?hy ?_); (case hgd => rfl); (case ho => rfl); (case hx => rfl); (case hy => rfl); (intro w3 B3 o3); have M3 := o3.blk M2 (by have := B1.lt; omega); have BB3 := o3.blk BB2 (by have := BB1.lt; omega); have kO3 := B3.cell (i := 0) rfl; have kM3 := M3.cell (i := 0) rfl; have kB3 := BB3.cell (i := 0) rfl)
    | ((with_reducible refine wpList_load_met 37 (.tmp 97) b 30 rcp.cells _ (some 98) ((BB3.ext (MsgD.rcpAt (⟨10, epoch, seq, nonce, tag, last, askE, askL, sld, told, rcp⟩ : MsgD) u l)).part (off := 30) rfl) Try.underlying37 rfl rsizeRcp ?hg ?ho ?hds ?hx ?_); (case hg => rfl); (case ho => rfl); (case hds => rfl); (case hx => rfl))
    | fail)
  have h12 : b2 ≠ b1 := by have := B1.lt; omega
  have h2b : b2 ≠ b := by have := BB1.lt; omega
  have h1b : b1 ≠ b := by have := hB.lt; omega
  have f1 : w.heap.size ≤ b1 := l1
  have f2 : w.heap.size ≤ b2 := by have := e1.size; omega
  have T3 : Turned [b] w w3 := ⟨by rw [o3.os, e2.os, e1.os], by rw [o3.tape, e2.tape, e1.tape], by rw [o3.output, e2.output, e1.output], by rw [o3.size]; have := e1.size; have := e2.size; omega, fun k hk hn => by rw [o3.block k (by omega), e2.block k (by have := e1.size; omega), e1.block k (by omega)]⟩
  have O3 := B3
  clear B1 B2 B3 BB1 BB2 M2 e1 e2 l1 l2 z1 z2 o3
  refine (rcpput_walk rcp _ ht.rroot ht.rname ht.repoch ht.rseq).mono ?_
  rintro e w4 ⟨he, hb4⟩
  have O4 := O3.below hb4 O3.lt
  have M4 := M3.below hb4 M3.lt
  have BB4 := BB3.below hb4 BB3.lt
  have T4 := T3.past (Turned.of_below (S := []) hb4 (Nat.le_refl _)) (fun x hx => by cases hx)
  have kM4 := M4.cell (i := 0) rfl
  have kO4 := O4.cell (i := 0) rfl
  clear hb4
  obtain ⟨r, f, rfl, hf⟩ : ∃ r f, e = .returned (.tuple #[.string r, .int .i64 f]) ∧ ((rcpOk rcp = true ∧ f = 0) ∨ (rcpOk rcp = false ∧ f = 2)) := by
    rcases he with ⟨h, r, h1, _⟩ | ⟨h, h1⟩
    · exact ⟨r, 0, h1, .inl ⟨h, rfl⟩⟩
    · exact ⟨_, 2, h1, .inr ⟨by cases hh : rcpOk rcp <;> simp_all, rfl⟩⟩
  clear he
  rcases hf with ⟨hok, rfl⟩ | ⟨hok, rfl⟩
  · go_wp2_with (first
      | ((with_reducible refine wpList_store_at 4 (.tmp 3) (.tmp 103) b2 0 (.bool true) _ _ O4 (by simp) (by kernel_rfl) rfl ?hgd ?ho ?hx ?hy ?_); (case hgd => rfl); (case ho => rfl); (case hx => rfl); (case hy => rfl); (intro w5 B5 o5); have M5 := o5.blk M4 h12.symm; have BB5 := o5.blk BB4 h2b.symm; have kM5 := M5.cell (i := 0) rfl; have kO5 := B5.cell (i := 0) rfl)
      | ((with_reducible refine wpList_store_part 37 (.tmp 107) (.tmp 105) b 30 Rcp.zero.cells _ _ BB5 (Nat.le_of_ble_eq_true rfl) rsizeRcp (Rcp.cells_one _) ?hgd ?ho ?hx ?hy ?_); (case hgd => rfl); (case ho => rfl); (case hx => rfl); (case hy => rfl); (intro w6 B6 o6); replace B6 : Blk w6 b ((⟨10, epoch, seq, nonce, tag, last, askE, askL, sld, told, Rcp.zero⟩ : MsgD).cells u l) 39 := B6; have kO6 := (o6.blk B5 h2b).cell (i := 0) rfl)
      | fail)
    go_ret
    refine ⟨ret_b ?_, u, l, ?_, (T4.past (only2 o5 o6) (fun x hx => by simp only [List.mem_cons, List.mem_nil_iff, or_false] at hx ⊢; omega)), ?_⟩
    · simp [saysOk, hok]
    · have hw : wipe (⟨10, epoch, seq, nonce, tag, last, askE, askL, sld, told, rcp⟩ : MsgD) = (⟨10, epoch, seq, nonce, tag, last, askE, askL, sld, told, Rcp.zero⟩ : MsgD) := by simp [wipe]
      rw [hw]
      exact B6
    · have hw : wipe (⟨10, epoch, seq, nonce, tag, last, askE, askL, sld, told, rcp⟩ : MsgD) = (⟨10, epoch, seq, nonce, tag, last, askE, askL, sld, told, Rcp.zero⟩ : MsgD) := by simp [wipe]
      rw [hw]
      exact ⟨hsu, hsl⟩
  · go_wp2_with (first
      | ((with_reducible refine wpList_store_at 4 (.tmp 3) (.tmp 103) b2 0 (.bool false) _ _ O4 (by simp) (by kernel_rfl) rfl ?hgd ?ho ?hx ?hy ?_); (case hgd => rfl); (case ho => rfl); (case hx => rfl); (case hy => rfl); (intro w5 B5 o5); have M5 := o5.blk M4 h12.symm; have BB5 := o5.blk BB4 h2b.symm; have kM5 := M5.cell (i := 0) rfl; have kO5 := B5.cell (i := 0) rfl)
      | ((with_reducible refine wpList_store_part 37 (.tmp 107) (.tmp 105) b 30 Rcp.zero.cells _ _ BB5 (Nat.le_of_ble_eq_true rfl) rsizeRcp (Rcp.cells_one _) ?hgd ?ho ?hx ?hy ?_); (case hgd => rfl); (case ho => rfl); (case hx => rfl); (case hy => rfl); (intro w6 B6 o6); replace B6 : Blk w6 b ((⟨10, epoch, seq, nonce, tag, last, askE, askL, sld, told, Rcp.zero⟩ : MsgD).cells u l) 39 := B6; have kO6 := (o6.blk B5 h2b).cell (i := 0) rfl)
      | fail)
    go_ret
    refine ⟨ret_b ?_, u, l, ?_, (T4.past (only2 o5 o6) (fun x hx => by simp only [List.mem_cons, List.mem_nil_iff, or_false] at hx ⊢; omega)), ?_⟩
    · simp [saysOk, hok]
    · have hw : wipe (⟨10, epoch, seq, nonce, tag, last, askE, askL, sld, told, rcp⟩ : MsgD) = (⟨10, epoch, seq, nonce, tag, last, askE, askL, sld, told, Rcp.zero⟩ : MsgD) := by simp [wipe]
      rw [hw]
      exact B6
    · have hw : wipe (⟨10, epoch, seq, nonce, tag, last, askE, askL, sld, told, rcp⟩ : MsgD) = (⟨10, epoch, seq, nonce, tag, last, askE, askL, sld, told, Rcp.zero⟩ : MsgD) := by simp [wipe]
      rw [hw]
      exact ⟨hsu, hsl⟩
set_option maxRecDepth 100000 in
set_option maxHeartbeats 4000000 in
theorem says_o (b : Nat) (kind : Int) (k1 : kind ≠ 1) (k2 : kind ≠ 2) (k3 : kind ≠ 3) (k4 : kind ≠ 4) (k5 : kind ≠ 5) (k6 : kind ≠ 6) (k7 : kind ≠ 7) (k8 : kind ≠ 8) (k10 : kind ≠ 10) (epoch seq : Int) (nonce tag last : ByteArray) (askE askL : Int) (sld : Sld) (told : ToldD) (rcp : Rcp) (u l : Value) (w : World) (hB : Blk w b ((⟨kind, epoch, seq, nonce, tag, last, askE, askL, sld, told, rcp⟩ : MsgD).cells u l) 39) (hu : PRow w u told.up) (hl : PRow w l told.left) (ht : MsgTame (⟨kind, epoch, seq, nonce, tag, last, askE, askL, sld, told, rcp⟩ : MsgD)) :
    Calls Try.prog 32 #[.pointer (some ⟨b, 0, none⟩)] w (SaysEnd (⟨kind, epoch, seq, nonce, tag, last, askE, askL, sld, told, rcp⟩ : MsgD) b w) := by
  have hmf := hmakef3
  have hsu := hu.shape
  have hsl := hl.shape
  go_enter Try.func32, Try.ntmps32
  go_wp2_with (first
    | ((with_reducible refine wpList_box_one 71 (.tmp 0) (.pointer (some ⟨b, 0, none⟩)) rfl (some 1) ?hgd ?ho ?hd ?hx ?_); (case hgd => rfl); (case ho => rfl); (case hd => rfl); (case hx => rfl); (intro b1 w1 l1 B1 e1 z1); have BB1 := hB.below e1 (Nat.lt_of_lt_of_le hB.lt l1))
    | ((with_reducible refine wpList_alloc_one 4 (.bool false) (by intro w; kernel_rfl) rfl (some 3) ?hgd ?ho ?hd ?_); (case hgd => rfl); (case ho => rfl); (case hd => rfl); (intro b2 w2 l2 B2 e2 z2); have M2 := B1.below e2 (Nat.lt_of_lt_of_le B1.lt l2); have BB2 := BB1.below e2 (Nat.lt_of_lt_of_le BB1.lt l2))
    | ((with_reducible refine wpList_store_at 4 (.tmp 3) (.const (.bool true)) b2 0 (.bool true) _ _ B2 (by simp) (by kernel_rfl) rfl ?hgd ?ho ?hx ?hy ?_); (case hgd => rfl); (case ho => rfl); (case hx => rfl); (case hy => rfl); (intro w3 B3 o3); have M3 := o3.blk M2 (by have := B1.lt; omega); have BB3 := o3.blk BB2 (by have := BB1.lt; omega); have kO3 := B3.cell (i := 0) rfl; have kM3 := M3.cell (i := 0) rfl; have kB3 := BB3.cell (i := 0) rfl)
    | ((with_reducible refine wpList_store_at 4 (.tmp 3) (.const (.bool false)) b2 0 (.bool false) _ _ B3 (by simp) (by kernel_rfl) rfl ?hgd ?ho ?hx ?hy ?_); (case hgd => rfl); (case ho => rfl); (case hx => rfl); (case hy => rfl); (intro w4 B4 o4); have BB4 := o4.blk BB3 (by have := BB1.lt; omega); have kO4 := B4.cell (i := 0) rfl)
    | fail)
  have h12 : b2 ≠ b1 := by have := B1.lt; omega
  have h2b : b2 ≠ b := by have := BB1.lt; omega
  have h1b : b1 ≠ b := by have := hB.lt; omega
  have f1 : w.heap.size ≤ b1 := l1
  have f2 : w.heap.size ≤ b2 := by have := e1.size; omega
  have T3 : Turned [b] w w3 := ⟨by rw [o3.os, e2.os, e1.os], by rw [o3.tape, e2.tape, e1.tape], by rw [o3.output, e2.output, e1.output], by rw [o3.size]; have := e1.size; have := e2.size; omega, fun k hk hn => by rw [o3.block k (by omega), e2.block k (by have := e1.size; omega), e1.block k (by omega)]⟩
  have O3 := B3
  clear B1 B2 B3 BB1 BB2 M2 e1 e2 l1 l2 z1 z2 o3
  go_ret
  refine ⟨ret_b ?_, u, l, ?_, T3.past (o4.turned (S := [b2]) (by simp)) (fun x hx => by simp only [List.mem_cons, List.mem_nil_iff, or_false] at hx ⊢; omega), ?_⟩
  · simp [saysOk, *]
  · have hw : wipe (⟨kind, epoch, seq, nonce, tag, last, askE, askL, sld, told, rcp⟩ : MsgD) = (⟨kind, epoch, seq, nonce, tag, last, askE, askL, sld, told, rcp⟩ : MsgD) := by simp [wipe, *]
    rw [hw]
    exact BB4
  · have hw : wipe (⟨kind, epoch, seq, nonce, tag, last, askE, askL, sld, told, rcp⟩ : MsgD) = (⟨kind, epoch, seq, nonce, tag, last, askE, askL, sld, told, rcp⟩ : MsgD) := by simp [wipe, *]
    rw [hw]
    exact ⟨hsu, hsl⟩
theorem says_walk (b : Nat) (m : MsgD) (u l : Value) (w : World) (hB : Blk w b (m.cells u l) 39) (hu : PRow w u m.told.up) (hl : PRow w l m.told.left) (ht : MsgTame m) :
    Calls Try.prog 32 #[.pointer (some ⟨b, 0, none⟩)] w (SaysEnd m b w) := by
  obtain ⟨kind, epoch, seq, nonce, tag, last, askE, askL, sld, told, rcp⟩ := m
  by_cases k1 : kind = 1
  · subst k1
    exact says_1 b epoch seq nonce tag last askE askL sld told rcp u l w hB hu hl ht
  by_cases k2 : kind = 2
  · subst k2
    exact says_2 b epoch seq nonce tag last askE askL sld told rcp u l w hB hu hl ht
  by_cases k3 : kind = 3
  · subst k3
    exact says_3 b epoch seq nonce tag last askE askL sld told rcp u l w hB hu hl ht
  by_cases k4 : kind = 4
  · subst k4
    exact says_4 b epoch seq nonce tag last askE askL sld told rcp u l w hB hu hl ht
  by_cases k5 : kind = 5
  · subst k5
    exact says_5 b epoch seq nonce tag last askE askL sld told rcp u l w hB hu hl ht
  by_cases k6 : kind = 6
  · subst k6
    exact says_6 b epoch seq nonce tag last askE askL sld told rcp u l w hB hu hl ht
  by_cases k7 : kind = 7
  · subst k7
    exact says_7 b epoch seq nonce tag last askE askL sld told rcp u l w hB hu hl ht
  by_cases k8 : kind = 8
  · subst k8
    exact says_8 b epoch seq nonce tag last askE askL sld told rcp u l w hB hu hl ht
  by_cases k10 : kind = 10
  · subst k10
    exact says_10 b epoch seq nonce tag last askE askL sld told rcp u l w hB hu hl ht
  exact says_o b kind k1 k2 k3 k4 k5 k6 k7 k8 k10 epoch seq nonce tag last askE askL sld told rcp u l w hB hu hl ht
end Go.Proofs.Ytkdplgcffdaoaaa
