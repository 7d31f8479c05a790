/- Walk of receipt.All and of the closure in it (chapter 21). Walk of receipt.All; the example of chapter 21. The example of chapter 21. -/
import Derived.Test.YtmiikdkdccheeaaGreatG9
import Derived.Test.YtmiikdkdccheeaaGreatG1
import Derived.Deep.DeepAppendWide
import Derived.OneCell
namespace Go.Proofs.YtmiikdkdccheeaaGreat
set_option linter.unusedSimpArgs false
set_option linter.unusedVariables false
open Go Go.RowKit
set_option linter.unusedVariables false

theorem infoRcp : (Tryz.prog.info? 25).map (fun i => (i.zero, i.size, i.bytes)) = some (some (.agg Rcp.zero.cells.toArray), 11, 120) := by kernel_rfl
/-- The receipts of the closures up to a place. -/
def allS (l : List Sld) (k : Nat) : List Rcp := (List.range k).filterMap (fun (j : Nat) => if (makeS l (j : Int)).2 = 0 then some (makeS l (j : Int)).1 else none)
theorem allS_succ (l : List Sld) (k : Nat) : allS l (k + 1) = allS l k ++ (if (makeS l (k : Int)).2 = 0 then [(makeS l (k : Int)).1] else []) := by
  unfold allS
  rw [List.range_succ, List.filterMap_append]
  congr 1
  by_cases h : (makeS l (k : Int)).2 = 0
  · simp [h]
  · simp [h]
def flatR (ys : List Rcp) : List Value := ys.flatMap Rcp.cells
theorem flatR_snoc (ys : List Rcp) (y : Rcp) : flatR (ys ++ [y]) = flatR ys ++ y.cells := by simp [flatR]

end Go.Proofs.YtmiikdkdccheeaaGreat
namespace Go.Proofs.YtmiikdkdccheeaaGreat
set_option linter.unusedSimpArgs false
set_option linter.unusedVariables false
open Go Go.RowKit
set_option linter.unusedVariables false

theorem allS_len (l : List Sld) (k : Nat) : (allS l k).length ≤ k := by
  unfold allS
  exact Nat.le_trans (List.length_filterMap_le _ _) (by simp)

end Go.Proofs.YtmiikdkdccheeaaGreat
namespace Go.Proofs.YtmiikdkdccheeaaGreat
set_option linter.unusedSimpArgs false
set_option linter.unusedVariables false
open Go Go.RowKit
set_option linter.unusedVariables false

def closeSld (r t : ByteArray) : Sld := ⟨⟨1, 0, 0, 0, 0, 0, r, ⟨#[]⟩⟩, t⟩
def n32 : ByteArray := ⟨(List.replicate 32 (0 : UInt8)).toArray⟩
theorem made21 {r t : ByteArray} (hr : r.size = 32) (ht : t.size = 32) : makeS [closeSld r t] 0 = (⟨0, ⟨1, 0, 0, 0, 0, 0, r, ⟨#[]⟩⟩, n32, t⟩, 0) := by
  have hx : ([closeSld r t] : List Sld)[0]? = some (closeSld r t) := rfl
  have h1 := makeS_at hx rfl
  have hl : lastB (([closeSld r t] : List Sld).take 0) = n32 := rfl
  have hok : rcpOk (rcpAt [closeSld r t] 0 (closeSld r t)) = true := by
    have e2 : n32.size = 32 := rfl
    simp only [rcpOk, rcpAt, hl, e2, recOk, recKind, closeSld, hr, ht]
    rfl
  rw [hok] at h1
  exact h1
set_option maxRecDepth 100000 in
set_option maxHeartbeats 2000000 in
theorem alive21 (w : World) :
    Calls Tryz.prog 6 #[] w fun e w' => e = .returned (.bool true) ∧ Below w.heap.size w w' := by
  go_enter Tryz.func6, Tryz.ntmps6
  go_wp2_with fail
  refine (noughts_walk 32 _ (by omega) (by omega)).mono ?_
  rintro e w1 ⟨r, rfl, tr, hb1⟩
  go_wp2_with fail
  refine (noughts_walk 32 _ (by omega) (by omega)).mono ?_
  rintro e w2 ⟨t, rfl, tt, hb2⟩
  go_wp2_with fail
  have B2 := Blk.new w2 (closeSld r t).cells 43
  have hrow : SldRow (w2.alloc (.cells (closeSld r t).cells.toArray 43)) (.slice (some ⟨w2.heap.size, 0, none⟩) 1 1) [closeSld r t] := by
    refine .inr ⟨_, _, _, rfl, by simp, B2.lt, fun j x hx => ?_⟩
    cases j with
    | zero => simp at hx; subst hx; exact B2.range
    | succ j => simp at hx
  have hrs : r.size = 32 := by rw [tr.size]; rfl
  have hts : t.size = 32 := by rw [tt.size]; rfl
  have hm := made21 hrs hts
  refine (make_walk _ [closeSld r t] 0 _ hrow (by simp) ?_).mono ?_
  · intro j x hx
    cases j with
    | zero => simp at hx; subst hx; exact ⟨by show (0 : Nat) ≤ _; omega, by show r.size ≤ _; omega, by show t.size ≤ _; omega, by show Fits 0; unfold Fits; omega⟩
    | succ j => simp at hx
  rintro e w3 ⟨he, hb3⟩
  unfold MakeEnd at he
  rw [hm] at he
  subst he
  clear hm hrow B2 hrs hts
  have hbw : Below w.heap.size w w3 := bt hb1 (bt hb2 (((Below.refl _ _).alloc (Nat.le_refl _) _).trans (hb3.mono (by simp))))
  go_wp2_with (first
      | ((with_reducible refine wpList_alloc_new 25 Rcp.zero.cells zeroRcp (some 1) ?hgd ?ho ?hd ?_); (case hgd => rfl); (case ho => rfl); (case hd => rfl); (intro b4 w4 l4 B4 e4 z4))
      | ((with_reducible refine wpList_store_new 25 (.tmp 1) (.tmp 10) b4 Rcp.zero.cells (Rcp.mk 0 ⟨1, 0, 0, 0, 0, 0, r, ⟨#[]⟩⟩ n32 t).cells 25 B4 rfl rsizeRcp (Rcp.cells_one _) ?hgd ?ho ?hx ?hy ?_); (case hgd => rfl); (case ho => rfl); (case hx => rfl); (case hy => rfl); (intro w5 B5 o5); (have R5 := RcpAt.blk B5); (obtain ⟨b0, b1, b2, b3, b4', b5, b6, b7, b8, b9, bA⟩ := R5.cells_))
      | fail)
  have hbw5 : Below w.heap.size w w5 := hbw.trans (o5.below (e4.mono (by have := hbw.size; omega)) (by have := hbw.size; omega))
  have z5 : b4 < w5.heap.size := B5.lt
  clear b1 b2 b3 b4' b5 b6 b7 b8 bA
  have hc1 : w5.cell? ⟨b4, 1, none⟩ = some (.int .i64 1) := B5.cell (i := 1) rfl
  have TN : Txt n32 (List.replicate 32 0) := Txt.mk _
  have TN := Lib.hid TN
  go_region_with ((go_at_call 24; refine (noughts_walk 32 _ (by omega) (by omega)).mono ?_; rintro e w6 ⟨q, rfl, tq, hb6⟩; have k0 := hb6.cell (p := ⟨b4, 0, none⟩) z5; have k1 := hb6.cell (p := ⟨b4, 1, none⟩) z5; have k9 := hb6.cell (p := ⟨b4, 9, none⟩) z5; have e1 : (n32.toList == q.toList) = true := TN.out.same tq rfl))
  all_goals (go_wp2_with fail; go_ret; exact ⟨rfl, hbw5.drew.trans (hb6.mono hbw5.size)⟩)
end Go.Proofs.YtmiikdkdccheeaaGreat
