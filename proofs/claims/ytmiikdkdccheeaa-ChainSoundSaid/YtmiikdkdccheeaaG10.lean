/- Walk of receipt.All and of the closure in it (chapter 21). Walk of receipt.All; the example of chapter 21. The example of chapter 21. -/
import Derived.Test.YtmiikdkdccheeaaG9
import Derived.Test.YtmiikdkdccheeaaG1
import Derived.Deep.DeepAppendWide
import Derived.OneCell
namespace Go.Proofs.Ytmiikdkdccheeaa
set_option linter.unusedSimpArgs false
set_option linter.unusedVariables false
open Go Go.RowKit
set_option linter.unusedVariables false

theorem infoRcp : (Try.prog.info? 48).map (fun i => (i.zero, i.size, i.bytes)) = some (some (.agg Rcp.zero.cells.toArray), 11, 120) := by kernel_rfl
/-- The receipts of the closures up to a place. -/
def allS (l : List Sld) (k : Nat) : List Rcp := (List.range k).filterMap (fun (j : Nat) => if (makeS l (j : Int)).2 = 0 then some (makeS l (j : Int)).1 else none)
theorem allS_succ (l : List Sld) (k : Nat) : allS l (k + 1) = allS l k ++ (if (makeS l (k : Int)).2 = 0 then [(makeS l (k : Int)).1] else []) := by
  unfold allS
  rw [List.range_succ, List.filterMap_append]
  congr 1
  by_cases h : (makeS l (k : Int)).2 = 0
  · simp [h]
  · simp [h]
def flatR (ys : List Rcp) : List Value := ys.flatMap Rcp.cells
theorem flatR_snoc (ys : List Rcp) (y : Rcp) : flatR (ys ++ [y]) = flatR ys ++ y.cells := by simp [flatR]

/-- What the closure finds and leaves. -/
structure AllInv (W0 w : World) (pl po : Nat) (v : Value) (ys : List Rcp) : Prop where
  lies : Blk w pl [v] 22
  out : ∃ vo, Blk w po [vo] 55 ∧ w.ownsRow (po + 1) 48 11 vo ys.length (flatR ys)
  bel : Below W0.heap.size W0 w
theorem AllInv.after {W0 w w' : World} {pl po : Nat} {v : Value} {ys : List Rcp} (h : AllInv W0 w pl po v ys) (hb : Below w.heap.size w w') : AllInv W0 w' pl po v ys := by
  obtain ⟨h1, ⟨vo, h2, h3⟩, h4⟩ := h
  exact ⟨h1.below hb h1.lt, ⟨vo, h2.below hb h2.lt, own_below hb h3⟩, h4.trans (hb.mono h4.size)⟩

set_option maxRecDepth 100000 in
set_option maxHeartbeats 2000000 in
theorem put21_walk (W0 w : World) (pl po : Nat) (v : Value) (l : List Sld) (k : Nat) (ys : List Rcp) (hI : AllInv W0 w pl po v ys) (hpl : W0.heap.size ≤ pl) (hlt : pl < po) (h0 : SldRow W0 v l) (hl : l.length ≤ 1048576) (ht : SldTame l) (hys : ys.length ≤ 1048576) (hya : ys = allS l k) :
    Calls Try.prog 57 #[.int .i64 k, .pointer (some ⟨pl, 0, none⟩), .pointer (some ⟨po, 0, none⟩)] w fun e w' => e = .returned (.tuple #[]) ∧ AllInv W0 w' pl po v (allS l (k + 1)) := by
  have HYA := Lib.hid hya; clear hya
  have c1 := hI.lies.cell (i := 0) rfl
  have HI := Lib.hid hI
  have h1 := h0.below hI.bel (Nat.le_refl _)
  have HR := Lib.hid h1
  have HT := Lib.hid ht
  have HL := Lib.hid hl
  obtain ⟨i0, hi, hz0, hz1, hz2⟩ := info_parts infoRcp
  clear hI h1 ht hl h0
  go_enter Try.func57, Try.ntmps57
  go_wp2_with fail
  refine (make_walk v l k w HR.out HL.out HT.out).mono ?_
  rintro e w1 ⟨he, hb1⟩
  unfold MakeEnd at he
  obtain ⟨m, hm⟩ : ∃ m, makeS l (k : Int) = m := ⟨_, rfl⟩
  rw [hm] at he
  have HM := Lib.hid hm
  clear hm
  obtain ⟨y, en⟩ := m
  subst he
  have HI1 := Lib.hid (HI.out.after hb1)
  clear c1
  by_cases hen : en = 0
  · subst hen
    go_wp2_with (first
      | ((with_reducible refine wpList_alloc_new 48 Rcp.zero.cells zeroRcp (some 4) ?hgd ?ho ?hd ?_); (case hgd => rfl); (case ho => rfl); (case hd => rfl); (intro b4 w4 l4 B4 e4 z4))
      | ((with_reducible refine wpList_store_new 48 (.tmp 4) (.tmp 10) b4 Rcp.zero.cells y.cells 48 B4 rfl rsizeRcp (Rcp.cells_one _) ?hgd ?ho ?hx ?hy ?_); (case hgd => rfl); (case ho => rfl); (case hx => rfl); (case hy => rfl); (intro w5 B5 o5); (have b15 := o5.below (e4.mono l4) l4); (obtain ⟨L5, ⟨vo, O5, own5⟩, bel5⟩ := HI1.out.after b15); (have c5 := O5.cell (i := 0) rfl))
      | ((with_reducible refine wpList_load_blk 48 (.tmp 4) b4 y.cells 48 _ B5 Try.underlying48 rfl rsizeRcp ?hgd ?ho ?hx ?_); (case hgd => rfl); (case ho => rfl); (case hx => rfl))
      | ((with_reducible refine wpList_slice_new 55 48 1 ?parts y.cells (.agg Rcp.zero.cells.toArray) 11 120 (some 16) Try.underlying55 infoRcp (by omega) (by omega) ?hgd ?ho ?hd ?hf ?_); (case hgd => rfl); (case ho => rfl); (case hd => rfl); (case hf => kernel_rfl); (intro g w6 l6 B6 e6 z6); (have own6 := own_below (e6.mono l6) own5); (have O6 := O5.below (e6.mono l6) O5.lt); (have L6 := L5.below (e6.mono l6) L5.lt))
      | (at_builtin; refine wpList_append_own_wide _ rfl _ _ 55 rfl (po + 1) 48 i0 (.agg Rcp.zero.cells.toArray) 11 120 Try.underlying55 hi hz0 hz1 hz2 rfl (by decide) _ _ _ rfl own6 ⟨g, 0, none⟩ 1 1 y.cells rfl rfl (cells_add B6) (Rcp.cells_one y) (by unfold maxLen; omega) (by omega) (by have := O6.lt; omega) ?_; intro v' w7 own7 grow7 nil7; (obtain ⟨p7, q7, rfl⟩ := own_shape own7); (have O7 := O6.grown grow7 (own_ne own6 (by omega))); (have L7 := L6.grown grow7 (own_ne own6 (by omega))); (have c7 := O7.cell (i := 0) rfl); (have f7 := O7.free 0))
      | fail)
    go_end0
    have e1 : allS l (k + 1) = ys ++ [y] := by
      rw [allS_succ, HM.out, if_pos rfl, ← HYA.out]
    have n7 : w.heap.size ≤ w7.heap.size := by
      have := grow7.size
      have := e6.size
      have := o5.size
      have := e4.size
      have := hb1.size
      omega
    refine ⟨rfl, ⟨L7.set_other (by show pl ≠ po; omega) _, ⟨_, O7.set 0 _, ?_⟩, ?_⟩⟩
    · rw [e1, List.length_append, flatR_snoc]
      exact own_set own7 (by omega)
    · have b6 : Below W0.heap.size W0 w6 := bel5.trans (e6.mono (by have := bel5.size; omega))
      exact (below_own b6 own6 grow7 (by omega) b6.size).setCell (by show W0.heap.size ≤ po; omega) _
  · have e1 : allS l (k + 1) = ys := by rw [allS_succ, HM.out, if_neg hen, List.append_nil, ← HYA.out]
    have E1 := Lib.hid e1; clear e1
    go_wp2_with (first
      | ((with_reducible refine wpList_alloc_new 48 Rcp.zero.cells zeroRcp (some 4) ?hgd ?ho ?hd ?_); (case hgd => rfl); (case ho => rfl); (case hd => rfl); (intro b4 w4 l4 B4 e4 z4))
      | ((with_reducible refine wpList_store_new 48 (.tmp 4) (.tmp 10) b4 Rcp.zero.cells y.cells 48 B4 rfl rsizeRcp (Rcp.cells_one _) ?hgd ?ho ?hx ?hy ?_); (case hgd => rfl); (case ho => rfl); (case hx => rfl); (case hy => rfl); (intro w5 B5 o5)))
    go_end0
    rw [E1.out]
    exact ⟨rfl, HI1.out.after (o5.below (e4.mono l4) l4)⟩
end Go.Proofs.Ytmiikdkdccheeaa
namespace Go.Proofs.Ytmiikdkdccheeaa
set_option linter.unusedSimpArgs false
set_option linter.unusedVariables false
open Go Go.RowKit
set_option linter.unusedVariables false

theorem zeroRcps (w : World) : Sem.run Try.prog (zeroValue 55) w = .ok (.slice none 0 0) w := by kernel_rfl
theorem allS_len (l : List Sld) (k : Nat) : (allS l k).length ≤ k := by
  unfold allS
  exact Nat.le_trans (List.length_filterMap_le _ _) (by simp)

set_option maxRecDepth 100000 in
set_option maxHeartbeats 2000000 in
theorem all21_walk (v : Value) (l : List Sld) (w : World) (h : SldRow w v l) (hl : l.length ≤ 1048576) (ht : SldTame l) :
    Calls Try.prog 27 #[v] w fun e w' => ∃ vo, e = .returned vo ∧ w'.ownsRow w.heap.size 48 11 vo (allS l l.length).length (flatR (allS l l.length)) ∧ Below w.heap.size w w' := by
  obtain ⟨p, c, rfl⟩ := h.shape
  obtain ⟨n, hn⟩ : ∃ n, n = l.length := ⟨_, rfl⟩
  rw [← hn] at h ⊢
  have HR := Lib.hid h; clear h
  have HT := Lib.hid ht; clear ht
  have HN := Lib.hid hn
  have hn2 : n ≤ 1048576 := by omega
  have HL := Lib.hid hl; clear hl hn
  go_enter Try.func27, Try.ntmps27
  go_wp2_with (first
    | ((with_reducible refine wpList_box_one 22 (.tmp 0) (.slice p n c) rfl (some 1) ?hgd ?ho ?hd ?hx ?_); (case hgd => rfl); (case ho => rfl); (case hd => rfl); (case hx => rfl); (intro pl w1 l1 B1 e1 z1))
    | ((with_reducible refine wpList_alloc_one 55 (.slice none 0 0) zeroRcps rfl (some 3) ?hgd ?ho ?hd ?_); (case hgd => rfl); (case ho => rfl); (case hd => rfl); (intro po w2 l2 B2 e2 z2); (have c1 := (B1.below e2 (by omega)).cell (i := 0) rfl))
    | fail)
  have I0 : AllInv w w2 pl po (.slice p n c) (allS l 0) := ⟨B1.below e2 (by omega), ⟨_, B2, World.ownsRow_nil _ _ _ _⟩, (e1.mono l1).trans (e2.mono (by omega))⟩
  have H0 := Lib.hid I0
  have hpo : pl < po := by omega
  clear I0 c1 B1 B2 e1 e2 z1 z2 l2
  go_loopw [9] (fun i wr => ∃ k : Nat, k ≤ n ∧ i = .int .i64 k ∧ AllInv w wr pl po (.slice p n c) (allS l k)) (fun i _ => n - (intOf i).toNat)
  case atStart => exact ⟨0, by omega, rfl, H0.out⟩
  case round =>
    clear H0
    obtain ⟨k, hk, rfl, hI⟩ := hrel
    have c1 := hI.lies.cell (i := 0) rfl
    obtain ⟨co, hco⟩ : ∃ vo, Hid (Blk wr po [vo] 55 ∧ wr.ownsRow (po + 1) 48 11 vo (allS l k).length (flatR (allS l k))) := hI.out
    have HI := Lib.hid hI; clear hI
    by_cases hlt : k < n
    · have hlt' : (k : Int) < n := by omega
      go_wp2_with fail
      refine (put21_walk w wr pl po _ l k (allS l k) HI.out l1 hpo HR.out HL.out HT.out (by have := allS_len l k; omega) rfl).mono ?_
      rintro e w3 ⟨rfl, hI3⟩
      have HI3 := Lib.hid hI3; clear hI3 c1 hco HI
      go_wp2_with fail
      go_roundw
      case rel => exact ⟨k + 1, by omega, by go_num, HI3.out⟩
      case measure => simp [intOf]; omega
    · obtain rfl : k = n := by omega
      have cpo := hco.out.1.cell (i := 0) rfl
      go_wp2_with fail
      go_ret
      exact ⟨_, rfl, own_base hco.out.2 (by omega), HI.out.bel⟩
end Go.Proofs.Ytmiikdkdccheeaa
namespace Go.Proofs.Ytmiikdkdccheeaa
set_option linter.unusedSimpArgs false
set_option linter.unusedVariables false
open Go Go.RowKit
set_option linter.unusedVariables false

def closeSld (r t : ByteArray) : Sld := ⟨⟨1, 0, 0, 0, 0, 0, r, ⟨#[]⟩⟩, t⟩
def n32 : ByteArray := ⟨(List.replicate 32 (0 : UInt8)).toArray⟩
theorem made21 {r t : ByteArray} (hr : r.size = 32) (ht : t.size = 32) : makeS [closeSld r t] 0 = (⟨0, ⟨1, 0, 0, 0, 0, 0, r, ⟨#[]⟩⟩, n32, t⟩, 0) := by
  have hx : ([closeSld r t] : List Sld)[0]? = some (closeSld r t) := rfl
  have h1 := makeS_at hx rfl
  have hl : lastB (([closeSld r t] : List Sld).take 0) = n32 := rfl
  have hok : rcpOk (rcpAt [closeSld r t] 0 (closeSld r t)) = true := by
    have e2 : n32.size = 32 := rfl
    simp only [rcpOk, rcpAt, hl, e2, recOk, recKind, closeSld, hr, ht]
    rfl
  rw [hok] at h1
  exact h1
set_option maxRecDepth 100000 in
set_option maxHeartbeats 2000000 in
theorem alive21 (w : World) :
    Calls Try.prog 24 #[] w fun e w' => e = .returned (.bool true) ∧ Below w.heap.size w w' := by
  go_enter Try.func24, Try.ntmps24
  go_wp2_with fail
  refine (noughts_walk 32 _ (by omega) (by omega)).mono ?_
  rintro e w1 ⟨r, rfl, tr, hb1⟩
  go_wp2_with fail
  refine (noughts_walk 32 _ (by omega) (by omega)).mono ?_
  rintro e w2 ⟨t, rfl, tt, hb2⟩
  go_wp2_with fail
  have B2 := Blk.new w2 (closeSld r t).cells 36
  have hrow : SldRow (w2.alloc (.cells (closeSld r t).cells.toArray 36)) (.slice (some ⟨w2.heap.size, 0, none⟩) 1 1) [closeSld r t] := by
    refine .inr ⟨_, _, _, rfl, by simp, B2.lt, fun j x hx => ?_⟩
    cases j with
    | zero => simp at hx; subst hx; exact B2.range
    | succ j => simp at hx
  have hrs : r.size = 32 := by rw [tr.size]; rfl
  have hts : t.size = 32 := by rw [tt.size]; rfl
  have hm := made21 hrs hts
  refine (make_walk _ [closeSld r t] 0 _ hrow (by simp) ?_).mono ?_
  · intro j x hx
    cases j with
    | zero => simp at hx; subst hx; exact ⟨by show (0 : Nat) ≤ _; omega, by show r.size ≤ _; omega, by show t.size ≤ _; omega, by show Fits 0; unfold Fits; omega⟩
    | succ j => simp at hx
  rintro e w3 ⟨he, hb3⟩
  unfold MakeEnd at he
  rw [hm] at he
  subst he
  clear hm hrow B2 hrs hts
  have hbw : Below w.heap.size w w3 := bt hb1 (bt hb2 (((Below.refl _ _).alloc (Nat.le_refl _) _).trans (hb3.mono (by simp))))
  go_wp2_with (first
      | ((with_reducible refine wpList_alloc_new 48 Rcp.zero.cells zeroRcp (some 1) ?hgd ?ho ?hd ?_); (case hgd => rfl); (case ho => rfl); (case hd => rfl); (intro b4 w4 l4 B4 e4 z4))
      | ((with_reducible refine wpList_store_new 48 (.tmp 1) (.tmp 10) b4 Rcp.zero.cells (Rcp.mk 0 ⟨1, 0, 0, 0, 0, 0, r, ⟨#[]⟩⟩ n32 t).cells 48 B4 rfl rsizeRcp (Rcp.cells_one _) ?hgd ?ho ?hx ?hy ?_); (case hgd => rfl); (case ho => rfl); (case hx => rfl); (case hy => rfl); (intro w5 B5 o5); (have R5 := RcpAt.blk B5); (obtain ⟨b0, b1, b2, b3, b4', b5, b6, b7, b8, b9, bA⟩ := R5.cells_))
      | fail)
  have hbw5 : Below w.heap.size w w5 := hbw.trans (o5.below (e4.mono (by have := hbw.size; omega)) (by have := hbw.size; omega))
  have z5 : b4 < w5.heap.size := B5.lt
  clear b1 b2 b3 b4' b5 b6 b7 b8 bA
  have hc1 : w5.cell? ⟨b4, 1, none⟩ = some (.int .i64 1) := B5.cell (i := 1) rfl
  have TN : Txt n32 (List.replicate 32 0) := Txt.mk _
  have TN := Lib.hid TN
  go_region_with ((go_at_call 31; refine (noughts_walk 32 _ (by omega) (by omega)).mono ?_; rintro e w6 ⟨q, rfl, tq, hb6⟩; have k0 := hb6.cell (p := ⟨b4, 0, none⟩) z5; have k1 := hb6.cell (p := ⟨b4, 1, none⟩) z5; have k9 := hb6.cell (p := ⟨b4, 9, none⟩) z5; have e1 : (n32.toList == q.toList) = true := TN.out.same tq rfl))
  all_goals (go_wp2_with fail; go_ret; exact ⟨rfl, hbw5.drew.trans (hb6.mono hbw5.size)⟩)
end Go.Proofs.Ytmiikdkdccheeaa
