/- Walk of chapter 32's few at what was made. -/
import Derived.Test.YtidekfbgjghcjaaGreatG33
import Derived.Test.YtidekfbgjghcjaaGreatG34
import Derived.Test.YtidekfbgjghcjaaGreatG8
import Derived.Deep.RegionHeld3
import Derived.Deep.DeepAppendWide
namespace Go.Proofs.YtidekfbgjghcjaaGreat
set_option linter.unusedSimpArgs false
set_option linter.unusedVariables false
open Go Go.RowKit

def zeroHd : Hd := ⟨MsgD.zero, .slice none 0 0, .slice none 0 0⟩
theorem zeroRow {w : World} {g : Nat} (h : Blk w g mzero 39) : HdRow w (.slice (some ⟨g, 0, none⟩) 1 1) [zeroHd] :=
  .inr ⟨g, 0, 1, rfl, Nat.le_refl _, h.lt, fun j x hx i u hu => by
    rcases j with _ | j
    · simp at hx; subst hx
      rw [show 0 + 0 * 41 + i = i by omega]; exact h.cell hu
    · simp at hx⟩
theorem zeroFits (w : World) : MsgFits w MsgD.zero (.slice none 0 0) (.slice none 0 0) :=
  ⟨by unfold Fits; decide, by unfold Fits; decide, by unfold Fits; decide, ⟨by decide⟩, ⟨by decide⟩, ⟨by decide⟩, ⟨by unfold Fits; decide, by unfold Fits; decide, by unfold Fits; decide, by unfold Fits; decide, by unfold Fits; decide, by unfold Fits; decide⟩, ⟨by unfold Fits; decide, ⟨by unfold Fits; decide, by unfold Fits; decide, by unfold Fits; decide, by unfold Fits; decide, by unfold Fits; decide, by unfold Fits; decide⟩⟩, by unfold Fits; decide, by unfold Fits; decide, PathIn.nil _ _, PathIn.nil _ _, ⟨by decide⟩, ⟨by decide⟩⟩
theorem zeroFit (w : World) : HdFits w [zeroHd] := fun j x hx => by
  rcases j with _ | j
  · simp at hx; subst hx; exact zeroFits w
  · simp at hx
theorem fitsSnoc {w : World} {hs : List Hd} (h : HdFits w hs) : HdFits w (hs ++ [zeroHd]) := fun j x hx => by
  by_cases hj : j < hs.length
  · rw [List.getElem?_append_left hj] at hx; exact h j x hx
  · rw [List.getElem?_append_right (by omega)] at hx; exact zeroFit w _ x hx
theorem seenMsg {w : World} {b : Nat} {t : TypeId} (h : Blk w b seenZero t) : w.rangeAt b 0 mzero := by
  intro j v hv
  rw [Nat.zero_add]
  refine h.cell ?_
  have hj : j < 41 := (List.getElem?_eq_some_iff.1 hv).1
  unfold seenZero
  rw [List.getElem?_append_left (by exact hj)]
  exact hv
set_option maxRecDepth 100000 in
set_option maxHeartbeats 2000000 in
theorem few32_no (sv cv : Value) (p : Option Addr) (n c : Nat) (sl : List Sld) (w : World) (hs : SldRow w sv sl) (hv1 : sv.oneCell' = true) (hv2 : cv.oneCell' = true) (hf : fewS sl = false) :
    Calls Tryz.prog 16 #[.agg #[sv, cv, .slice p n c], .agg seenZero.toArray] w fun e w' => e = .returned (.bool false) ∧ Below w.heap.size w w' := by
  have HS := Lib.hid hs
  have HF := Lib.hid hf
  clear hs hf
  go_enter Tryz.func16, Tryz.ntmps16
  go_wp2_with (first
    | ((with_reducible refine wpList_box_new 56 (.tmp 0) ([sv, cv, .slice p n c]) (some 2) ?hgd ?ho ?hd ?hx ?_); (case hgd | ho | hd | hx => rfl); (intro b2 w2 l2 B2 e2 z2))
    | ((with_reducible refine wpList_box_new 62 (.tmp 1) (seenZero) (some 3) ?hgd ?ho ?hd ?hx ?_); (case hgd | ho | hd | hx => rfl); (intro b3 w3 l3 B3 e3 z3))
    | fail)
  have HX := Lib.hid (B2.below e3 (Nat.lt_of_lt_of_le B2.lt l3))
  have HY := Lib.hid B3
  have HB := Lib.hid (show Below w.heap.size w w3 from (e2.mono l2).trans (e3.mono (by have := e2.size; omega)))
  clear B2 B3 e2 e3 l2 l3 z2 z3
  have hS0 : (fun w' => w'.cell? ⟨b2, 0, none⟩ = some sv ∧ w'.cell? ⟨b2, 1, none⟩ = some cv ∧ w'.cell? ⟨b2, 2, none⟩ = some (.slice p n c) ∧ w'.rangeAt b3 0 mzero ∧ w'.cell? ⟨b3, 41, none⟩ = some (.slice none 0 0) ∧ w'.cell? ⟨b3, 42, none⟩ = some (.slice none 0 0)) w3.drew := ⟨HX.out.drew.cell (i := 0) rfl, HX.out.drew.cell (i := 1) rfl, HX.out.drew.cell (i := 2) rfl, seenMsg HY.out.drew, HY.out.drew.cell (i := 41) rfl, HY.out.drew.cell (i := 42) rfl⟩
  refine wp_region_held_drew (S := fun w' => w'.cell? ⟨b2, 0, none⟩ = some sv ∧ w'.cell? ⟨b2, 1, none⟩ = some cv ∧ w'.cell? ⟨b2, 2, none⟩ = some (.slice p n c) ∧ w'.rangeAt b3 0 mzero ∧ w'.cell? ⟨b3, 41, none⟩ = some (.slice none 0 0) ∧ w'.cell? ⟨b3, 42, none⟩ = some (.slice none 0 0)) (by kernel_rfl) (hS0) (fun hHeld => ?_)
  clear hS0
  refine wpAnyH_take (i := 0) (v := ?_) rfl (by kernel_rfl) (by kernel_rfl) (by kernel_rfl) (fun _ _ _ h => h) (Or.inl ⟨by rfl, ?_⟩) (by assumption) ?_
  rotate_left
  · intro w hSw; (try dsimp only at hSw); go_simp; first | done | with_reducible rfl
  (try simp only [Act.put, Array.getInternal_eq_getElem, List.getElem_toArray, List.getElem_cons_succ, List.getElem_cons_zero, List.setIfInBounds_toArray, List.set_cons_zero, List.set_cons_succ])
  refine wpAnyH_take (i := 1) (v := ?_) rfl (by kernel_rfl) (by kernel_rfl) (by kernel_rfl) (fun _ _ _ h => h) (Or.inl ⟨by rfl, ?_⟩) (by assumption) ?_
  rotate_left
  · intro w hSw; (try dsimp only at hSw); go_simp; first | done | with_reducible rfl
  (try simp only [Act.put, Array.getInternal_eq_getElem, List.getElem_toArray, List.getElem_cons_succ, List.getElem_cons_zero, List.setIfInBounds_toArray, List.set_cons_zero, List.set_cons_succ])
  refine wpAnyH_ready (rs := [2]) (by kernel_rfl) (by simp) ?_
  refine AllReadyH.cons rfl (fun K hK => ?_) AllReadyH.nil
  go_simp
  refine (few20_walk sv sl _ (HS.out.below HB.out.drew (Nat.le_refl _))).mono ?_
  rintro e w4 ⟨rfl, hb4⟩
  rw [HF.out]
  have HX4 := Lib.hid (HX.out.drew.below hb4 HX.out.drew.lt)
  have HY4 := Lib.hid (HY.out.drew.below hb4 HY.out.drew.lt)
  have HB4 := Lib.hid (HB.out.drew.trans (hb4.mono HB.out.drew.size))
  clear hb4
  (try go_wp2_with fail)
  refine hK.out _ _ (⟨HX4.out.cell (i := 0) rfl, HX4.out.cell (i := 1) rfl, HX4.out.cell (i := 2) rfl, seenMsg HY4.out, HY4.out.cell (i := 41) rfl, HY4.out.cell (i := 42) rfl⟩) (fun hHeld2 => ?_)
  clear hK K hHeld
  have hHeld := hHeld2
  clear hHeld2
  (try simp only [Act.put, Array.getInternal_eq_getElem, List.getElem_toArray, List.getElem_cons_succ, List.getElem_cons_zero, List.setIfInBounds_toArray, List.set_cons_zero, List.set_cons_succ])
  refine wpAnyH_take (i := 3) (v := ?_) rfl (by kernel_rfl) (by kernel_rfl) (by kernel_rfl) (fun _ _ _ h => h) (Or.inl ⟨by rfl, ?_⟩) (by assumption) ?_
  rotate_left
  · intro w hSw; (try dsimp only at hSw); go_simp; first | done | with_reducible rfl
  (try simp only [Act.put, Array.getInternal_eq_getElem, List.getElem_toArray, List.getElem_cons_succ, List.getElem_cons_zero, List.setIfInBounds_toArray, List.set_cons_zero, List.set_cons_succ])
  refine wpAnyH_take (i := 4) (v := ?_) rfl (by kernel_rfl) (by kernel_rfl) (by kernel_rfl) (fun _ _ _ h => h) (Or.inl ⟨by rfl, ?_⟩) (by assumption) ?_
  rotate_left
  · intro w hSw; (try dsimp only at hSw); go_simp; first | done | with_reducible rfl
  (try simp only [Act.put, Array.getInternal_eq_getElem, List.getElem_toArray, List.getElem_cons_succ, List.getElem_cons_zero, List.setIfInBounds_toArray, List.set_cons_zero, List.set_cons_succ])
  refine wpAnyH_take (i := 5) (v := undef) rfl (by kernel_rfl) (by kernel_rfl) (by kernel_rfl) (fun _ _ _ h => h) (Or.inr ⟨by rfl, rfl⟩) (by assumption) ?_
  (try simp only [Act.put, Array.getInternal_eq_getElem, List.getElem_toArray, List.getElem_cons_succ, List.getElem_cons_zero, List.setIfInBounds_toArray, List.set_cons_zero, List.set_cons_succ])
  refine wpAnyH_take (i := 6) (v := undef) rfl (by kernel_rfl) (by kernel_rfl) (by kernel_rfl) (fun _ _ _ h => h) (Or.inr ⟨by rfl, rfl⟩) (by assumption) ?_
  (try simp only [Act.put, Array.getInternal_eq_getElem, List.getElem_toArray, List.getElem_cons_succ, List.getElem_cons_zero, List.setIfInBounds_toArray, List.set_cons_zero, List.set_cons_succ])
  refine wpAnyH_take (i := 7) (v := undef) rfl (by kernel_rfl) (by kernel_rfl) (by kernel_rfl) (fun _ _ _ h => h) (Or.inr ⟨by rfl, rfl⟩) (by assumption) ?_
  (try simp only [Act.put, Array.getInternal_eq_getElem, List.getElem_toArray, List.getElem_cons_succ, List.getElem_cons_zero, List.setIfInBounds_toArray, List.set_cons_zero, List.set_cons_succ])
  refine wpAnyH_take (i := 8) (v := undef) rfl (by kernel_rfl) (by kernel_rfl) (by kernel_rfl) (fun _ _ _ h => h) (Or.inr ⟨by rfl, rfl⟩) (by assumption) ?_
  (try simp only [Act.put, Array.getInternal_eq_getElem, List.getElem_toArray, List.getElem_cons_succ, List.getElem_cons_zero, List.setIfInBounds_toArray, List.set_cons_zero, List.set_cons_succ])
  refine wpAnyH_take (i := 9) (v := ?_) rfl (by kernel_rfl) (by kernel_rfl) (by kernel_rfl) (fun _ _ _ h => h) (Or.inl ⟨by rfl, ?_⟩) (by assumption) ?_
  rotate_left
  · intro w hSw; (try dsimp only at hSw); go_simp; first | done | with_reducible rfl
  (try simp only [Act.put, Array.getInternal_eq_getElem, List.getElem_toArray, List.getElem_cons_succ, List.getElem_cons_zero, List.setIfInBounds_toArray, List.set_cons_zero, List.set_cons_succ])
  refine wpAnyH_take (i := 10) (v := ?_) rfl (by kernel_rfl) (by kernel_rfl) (by kernel_rfl) (fun _ _ _ h => h) (Or.inl ⟨by rfl, ?_⟩) (by assumption) ?_
  rotate_left
  · intro w hSw; (try dsimp only at hSw); go_simp; first | done | with_reducible rfl
  (try simp only [Act.put, Array.getInternal_eq_getElem, List.getElem_toArray, List.getElem_cons_succ, List.getElem_cons_zero, List.setIfInBounds_toArray, List.set_cons_zero, List.set_cons_succ])
  refine wpAnyH_take (i := 11) (v := undef) rfl (by kernel_rfl) (by kernel_rfl) (by kernel_rfl) (fun _ _ _ h => h) (Or.inr ⟨by rfl, rfl⟩) (by assumption) ?_
  (try simp only [Act.put, Array.getInternal_eq_getElem, List.getElem_toArray, List.getElem_cons_succ, List.getElem_cons_zero, List.setIfInBounds_toArray, List.set_cons_zero, List.set_cons_succ])
  refine wpAnyH_take (i := 12) (v := undef) rfl (by kernel_rfl) (by kernel_rfl) (by kernel_rfl) (fun _ _ _ h => h) (Or.inr ⟨by rfl, rfl⟩) (by assumption) ?_
  (try simp only [Act.put, Array.getInternal_eq_getElem, List.getElem_toArray, List.getElem_cons_succ, List.getElem_cons_zero, List.setIfInBounds_toArray, List.set_cons_zero, List.set_cons_succ])
  refine wpAnyH_take (i := 13) (v := undef) rfl (by kernel_rfl) (by kernel_rfl) (by kernel_rfl) (fun _ _ _ h => h) (Or.inr ⟨by rfl, rfl⟩) (by assumption) ?_
  (try simp only [Act.put, Array.getInternal_eq_getElem, List.getElem_toArray, List.getElem_cons_succ, List.getElem_cons_zero, List.setIfInBounds_toArray, List.set_cons_zero, List.set_cons_succ])
  refine wpAnyH_take (i := 14) (v := undef) rfl (by kernel_rfl) (by kernel_rfl) (by kernel_rfl) (fun _ _ _ h => h) (Or.inr ⟨by rfl, rfl⟩) (by assumption) ?_
  (try simp only [Act.put, Array.getInternal_eq_getElem, List.getElem_toArray, List.getElem_cons_succ, List.getElem_cons_zero, List.setIfInBounds_toArray, List.set_cons_zero, List.set_cons_succ])
  refine wpAnyH_take (i := 15) (v := undef) rfl (by kernel_rfl) (by kernel_rfl) (by kernel_rfl) (fun _ _ _ h => h) (Or.inr ⟨by rfl, rfl⟩) (by assumption) ?_
  (try simp only [Act.put, Array.getInternal_eq_getElem, List.getElem_toArray, List.getElem_cons_succ, List.getElem_cons_zero, List.setIfInBounds_toArray, List.set_cons_zero, List.set_cons_succ])
  refine wpAnyH_take (i := 16) (v := undef) rfl (by kernel_rfl) (by kernel_rfl) (by kernel_rfl) (fun _ _ _ h => h) (Or.inr ⟨by rfl, rfl⟩) (by assumption) ?_
  (try simp only [Act.put, Array.getInternal_eq_getElem, List.getElem_toArray, List.getElem_cons_succ, List.getElem_cons_zero, List.setIfInBounds_toArray, List.set_cons_zero, List.set_cons_succ])
  refine wpAnyH_take (i := 17) (v := undef) rfl (by kernel_rfl) (by kernel_rfl) (by kernel_rfl) (fun _ _ _ h => h) (Or.inr ⟨by rfl, rfl⟩) (by assumption) ?_
  (try simp only [Act.put, Array.getInternal_eq_getElem, List.getElem_toArray, List.getElem_cons_succ, List.getElem_cons_zero, List.setIfInBounds_toArray, List.set_cons_zero, List.set_cons_succ])
  refine wpAnyH_take (i := 18) (v := undef) rfl (by kernel_rfl) (by kernel_rfl) (by kernel_rfl) (fun _ _ _ h => h) (Or.inr ⟨by rfl, rfl⟩) (by assumption) ?_
  (try simp only [Act.put, Array.getInternal_eq_getElem, List.getElem_toArray, List.getElem_cons_succ, List.getElem_cons_zero, List.setIfInBounds_toArray, List.set_cons_zero, List.set_cons_succ])
  refine wpAnyH_take (i := 19) (v := undef) rfl (by kernel_rfl) (by kernel_rfl) (by kernel_rfl) (fun _ _ _ h => h) (Or.inr ⟨by rfl, rfl⟩) (by assumption) ?_
  (try simp only [Act.put, Array.getInternal_eq_getElem, List.getElem_toArray, List.getElem_cons_succ, List.getElem_cons_zero, List.setIfInBounds_toArray, List.set_cons_zero, List.set_cons_succ])
  refine wpAnyH_take (i := 20) (v := undef) rfl (by kernel_rfl) (by kernel_rfl) (by kernel_rfl) (fun _ _ _ h => h) (Or.inr ⟨by rfl, rfl⟩) (by assumption) ?_
  (try simp only [Act.put, Array.getInternal_eq_getElem, List.getElem_toArray, List.getElem_cons_succ, List.getElem_cons_zero, List.setIfInBounds_toArray, List.set_cons_zero, List.set_cons_succ])
  refine wpAnyH_take (i := 21) (v := undef) rfl (by kernel_rfl) (by kernel_rfl) (by kernel_rfl) (fun _ _ _ h => h) (Or.inr ⟨by rfl, rfl⟩) (by assumption) ?_
  (try simp only [Act.put, Array.getInternal_eq_getElem, List.getElem_toArray, List.getElem_cons_succ, List.getElem_cons_zero, List.setIfInBounds_toArray, List.set_cons_zero, List.set_cons_succ])
  refine wpAnyH_take (i := 22) (v := undef) rfl (by kernel_rfl) (by kernel_rfl) (by kernel_rfl) (fun _ _ _ h => h) (Or.inr ⟨by rfl, rfl⟩) (by assumption) ?_
  (try simp only [Act.put, Array.getInternal_eq_getElem, List.getElem_toArray, List.getElem_cons_succ, List.getElem_cons_zero, List.setIfInBounds_toArray, List.set_cons_zero, List.set_cons_succ])
  refine wpAnyH_take (i := 23) (v := ?_) rfl (by kernel_rfl) (by kernel_rfl) (by kernel_rfl) (fun _ _ _ h => h) (Or.inl ⟨by rfl, ?_⟩) (by assumption) ?_
  rotate_left
  · intro w hSw; (try dsimp only at hSw); go_simp; first | done | with_reducible rfl
  (try simp only [Act.put, Array.getInternal_eq_getElem, List.getElem_toArray, List.getElem_cons_succ, List.getElem_cons_zero, List.setIfInBounds_toArray, List.set_cons_zero, List.set_cons_succ])
  refine wpAnyH_take (i := 24) (v := ?_) rfl (by kernel_rfl) (by kernel_rfl) (by kernel_rfl) (fun _ _ _ h => h) (Or.inl ⟨by rfl, ?_⟩) (by assumption) ?_
  rotate_left
  · intro w hSw; (try dsimp only at hSw); go_simp; first | done | with_reducible rfl
  (try simp only [Act.put, Array.getInternal_eq_getElem, List.getElem_toArray, List.getElem_cons_succ, List.getElem_cons_zero, List.setIfInBounds_toArray, List.set_cons_zero, List.set_cons_succ])
  refine wpAnyH_take (i := 25) (v := undef) rfl (by kernel_rfl) (by kernel_rfl) (by kernel_rfl) (fun _ _ _ h => h) (Or.inr ⟨by rfl, rfl⟩) (by assumption) ?_
  (try simp only [Act.put, Array.getInternal_eq_getElem, List.getElem_toArray, List.getElem_cons_succ, List.getElem_cons_zero, List.setIfInBounds_toArray, List.set_cons_zero, List.set_cons_succ])
  refine wpAnyH_take (i := 26) (v := undef) rfl (by kernel_rfl) (by kernel_rfl) (by kernel_rfl) (fun _ _ _ h => h) (Or.inr ⟨by rfl, rfl⟩) (by assumption) ?_
  (try simp only [Act.put, Array.getInternal_eq_getElem, List.getElem_toArray, List.getElem_cons_succ, List.getElem_cons_zero, List.setIfInBounds_toArray, List.set_cons_zero, List.set_cons_succ])
  refine wpAnyH_take (i := 27) (v := undef) rfl (by kernel_rfl) (by kernel_rfl) (by kernel_rfl) (fun _ _ _ h => h) (Or.inr ⟨by rfl, rfl⟩) (by assumption) ?_
  (try simp only [Act.put, Array.getInternal_eq_getElem, List.getElem_toArray, List.getElem_cons_succ, List.getElem_cons_zero, List.setIfInBounds_toArray, List.set_cons_zero, List.set_cons_succ])
  refine wpAnyH_take (i := 28) (v := undef) rfl (by kernel_rfl) (by kernel_rfl) (by kernel_rfl) (fun _ _ _ h => h) (Or.inr ⟨by rfl, rfl⟩) (by assumption) ?_
  (try simp only [Act.put, Array.getInternal_eq_getElem, List.getElem_toArray, List.getElem_cons_succ, List.getElem_cons_zero, List.setIfInBounds_toArray, List.set_cons_zero, List.set_cons_succ])
  refine wpAnyH_take (i := 29) (v := ?_) rfl (by kernel_rfl) (by kernel_rfl) (by kernel_rfl) (fun _ _ _ h => h) (Or.inl ⟨by rfl, ?_⟩) (by assumption) ?_
  rotate_left
  · intro w hSw; (try dsimp only at hSw); go_simp; first | done | with_reducible rfl
  (try simp only [Act.put, Array.getInternal_eq_getElem, List.getElem_toArray, List.getElem_cons_succ, List.getElem_cons_zero, List.setIfInBounds_toArray, List.set_cons_zero, List.set_cons_succ])
  refine wpAnyH_done (by kernel_rfl) ?_ _
  go_wp2_with fail
  go_ret
  exact ⟨rfl, HB4.out⟩
set_option maxRecDepth 100000 in
set_option maxHeartbeats 2000000 in
theorem few32_yes (sv cv : Value) (p : Option Addr) (n c : Nat) (sl : List Sld) (cl : List ByteArray) (hs2 : List Hd) (w : World) (hs : SldRow w sv sl) (hv1 : sv.oneCell' = true) (hv2 : cv.oneCell' = true) (hf : fewS sl = true)
    (hcr : CellRow w cv cl) (hr : HdRow w (.slice p n c) hs2) (hfh : HdFits w hs2) (hnl : Value.slice p n c = .slice none 0 0 ∨ ∃ ad m c', Value.slice p n c = .slice (some ad) m c') (hlen : hs2.length ≤ 1048576) :
    Calls Tryz.prog 16 #[.agg #[sv, cv, .slice p n c], .agg seenZero.toArray] w fun e w' => FewEnd32 hs2 e ∧ Below w.heap.size w w' := by
  have HCR := Lib.hid hcr
  have HR := Lib.hid hr
  have HFH := Lib.hid hfh
  have HNL := Lib.hid hnl
  have HLEN := Lib.hid hlen
  clear hcr hr hfh hnl hlen
  have HS := Lib.hid hs
  have HF := Lib.hid hf
  clear hs hf
  go_enter Tryz.func16, Tryz.ntmps16
  go_wp2_with (first
    | ((with_reducible refine wpList_box_new 56 (.tmp 0) ([sv, cv, .slice p n c]) (some 2) ?hgd ?ho ?hd ?hx ?_); (case hgd | ho | hd | hx => rfl); (intro b2 w2 l2 B2 e2 z2))
    | ((with_reducible refine wpList_box_new 62 (.tmp 1) (seenZero) (some 3) ?hgd ?ho ?hd ?hx ?_); (case hgd | ho | hd | hx => rfl); (intro b3 w3 l3 B3 e3 z3))
    | fail)
  have HX := Lib.hid (B2.below e3 (Nat.lt_of_lt_of_le B2.lt l3))
  have HY := Lib.hid B3
  have HB := Lib.hid (show Below w.heap.size w w3 from (e2.mono l2).trans (e3.mono (by have := e2.size; omega)))
  clear B2 B3 e2 e3 l2 l3 z2 z3
  have hS0 : (fun w' => w'.cell? ⟨b2, 0, none⟩ = some sv ∧ w'.cell? ⟨b2, 1, none⟩ = some cv ∧ w'.cell? ⟨b2, 2, none⟩ = some (.slice p n c) ∧ w'.rangeAt b3 0 mzero ∧ w'.cell? ⟨b3, 41, none⟩ = some (.slice none 0 0) ∧ w'.cell? ⟨b3, 42, none⟩ = some (.slice none 0 0)) w3.drew := ⟨HX.out.drew.cell (i := 0) rfl, HX.out.drew.cell (i := 1) rfl, HX.out.drew.cell (i := 2) rfl, seenMsg HY.out.drew, HY.out.drew.cell (i := 41) rfl, HY.out.drew.cell (i := 42) rfl⟩
  refine wp_region_held_drew (S := fun w' => w'.cell? ⟨b2, 0, none⟩ = some sv ∧ w'.cell? ⟨b2, 1, none⟩ = some cv ∧ w'.cell? ⟨b2, 2, none⟩ = some (.slice p n c) ∧ w'.rangeAt b3 0 mzero ∧ w'.cell? ⟨b3, 41, none⟩ = some (.slice none 0 0) ∧ w'.cell? ⟨b3, 42, none⟩ = some (.slice none 0 0)) (by kernel_rfl) (hS0) (fun hHeld => ?_)
  clear hS0
  refine wpAnyH_take (i := 0) (v := ?_) rfl (by kernel_rfl) (by kernel_rfl) (by kernel_rfl) (fun _ _ _ h => h) (Or.inl ⟨by rfl, ?_⟩) (by assumption) ?_
  rotate_left
  · intro w hSw; (try dsimp only at hSw); go_simp; first | done | with_reducible rfl
  (try simp only [Act.put, Array.getInternal_eq_getElem, List.getElem_toArray, List.getElem_cons_succ, List.getElem_cons_zero, List.setIfInBounds_toArray, List.set_cons_zero, List.set_cons_succ])
  refine wpAnyH_take (i := 1) (v := ?_) rfl (by kernel_rfl) (by kernel_rfl) (by kernel_rfl) (fun _ _ _ h => h) (Or.inl ⟨by rfl, ?_⟩) (by assumption) ?_
  rotate_left
  · intro w hSw; (try dsimp only at hSw); go_simp; first | done | with_reducible rfl
  (try simp only [Act.put, Array.getInternal_eq_getElem, List.getElem_toArray, List.getElem_cons_succ, List.getElem_cons_zero, List.setIfInBounds_toArray, List.set_cons_zero, List.set_cons_succ])
  refine wpAnyH_ready (rs := [2]) (by kernel_rfl) (by simp) ?_
  refine AllReadyH.cons rfl (fun K hK => ?_) AllReadyH.nil
  go_simp
  refine (few20_walk sv sl _ (HS.out.below HB.out.drew (Nat.le_refl _))).mono ?_
  rintro e w4 ⟨rfl, hb4⟩
  rw [HF.out]
  have HX4 := Lib.hid (HX.out.drew.below hb4 HX.out.drew.lt)
  have HY4 := Lib.hid (HY.out.drew.below hb4 HY.out.drew.lt)
  have HB4 := Lib.hid (HB.out.drew.trans (hb4.mono HB.out.drew.size))
  clear hb4
  (try go_wp2_with fail)
  refine hK.out _ _ (⟨HX4.out.cell (i := 0) rfl, HX4.out.cell (i := 1) rfl, HX4.out.cell (i := 2) rfl, seenMsg HY4.out, HY4.out.cell (i := 41) rfl, HY4.out.cell (i := 42) rfl⟩) (fun hHeld2 => ?_)
  clear hK K hHeld
  have hHeld := hHeld2
  clear hHeld2
  (try simp only [Act.put, Array.getInternal_eq_getElem, List.getElem_toArray, List.getElem_cons_succ, List.getElem_cons_zero, List.setIfInBounds_toArray, List.set_cons_zero, List.set_cons_succ])
  refine wpAnyH_take (i := 3) (v := ?_) rfl (by kernel_rfl) (by kernel_rfl) (by kernel_rfl) (fun _ _ _ h => h) (Or.inl ⟨by rfl, ?_⟩) (by assumption) ?_
  rotate_left
  · intro w hSw; (try dsimp only at hSw); go_simp; first | done | with_reducible rfl
  (try simp only [Act.put, Array.getInternal_eq_getElem, List.getElem_toArray, List.getElem_cons_succ, List.getElem_cons_zero, List.setIfInBounds_toArray, List.set_cons_zero, List.set_cons_succ])
  refine wpAnyH_take (i := 4) (v := ?_) rfl (by kernel_rfl) (by kernel_rfl) (by kernel_rfl) (fun _ _ _ h => h) (Or.inl ⟨by rfl, ?_⟩) (by assumption) ?_
  rotate_left
  · intro w hSw; (try dsimp only at hSw); go_simp; first | done | with_reducible rfl
  (try simp only [Act.put, Array.getInternal_eq_getElem, List.getElem_toArray, List.getElem_cons_succ, List.getElem_cons_zero, List.setIfInBounds_toArray, List.set_cons_zero, List.set_cons_succ])
  refine wpAnyH_take (i := 5) (v := ?_) rfl (by kernel_rfl) (by kernel_rfl) (by kernel_rfl) (fun _ _ _ h => h) (Or.inl ⟨by rfl, ?_⟩) (by assumption) ?_
  rotate_left
  · intro w hSw; (try dsimp only at hSw); go_simp; first | done | with_reducible rfl
  (try simp only [Act.put, Array.getInternal_eq_getElem, List.getElem_toArray, List.getElem_cons_succ, List.getElem_cons_zero, List.setIfInBounds_toArray, List.set_cons_zero, List.set_cons_succ])
  refine wpAnyH_take (i := 6) (v := ?_) rfl (by kernel_rfl) (by kernel_rfl) (by kernel_rfl) (fun _ _ _ h => h) (Or.inl ⟨by rfl, ?_⟩) (by assumption) ?_
  rotate_left
  · intro w hSw; (try dsimp only at hSw); go_simp; first | done | with_reducible rfl
  (try simp only [Act.put, Array.getInternal_eq_getElem, List.getElem_toArray, List.getElem_cons_succ, List.getElem_cons_zero, List.setIfInBounds_toArray, List.set_cons_zero, List.set_cons_succ])
  refine wpAnyH_ready (rs := [7]) (by kernel_rfl) (by simp) ?_
  refine AllReadyH.cons rfl (fun K hK => ?_) AllReadyH.nil
  go_simp
  refine (few20_walk (.slice none 0 0) [] _ (.inl ⟨rfl, _, _, rfl⟩)).mono ?_
  rintro e w5 ⟨rfl, hb5⟩
  rw [show fewS [] = true from by decide]
  have HX5 := Lib.hid (HX4.out.below hb5 HX4.out.lt)
  have HY5 := Lib.hid (HY4.out.below hb5 HY4.out.lt)
  have HB5 := Lib.hid (HB4.out.trans (hb5.mono HB4.out.size))
  clear hb5
  (try go_wp2_with fail)
  refine hK.out _ _ (⟨HX5.out.cell (i := 0) rfl, HX5.out.cell (i := 1) rfl, HX5.out.cell (i := 2) rfl, seenMsg HY5.out, HY5.out.cell (i := 41) rfl, HY5.out.cell (i := 42) rfl⟩) (fun hHeld2 => ?_)
  clear hK K hHeld
  have hHeld := hHeld2
  clear hHeld2
  (try simp only [Act.put, Array.getInternal_eq_getElem, List.getElem_toArray, List.getElem_cons_succ, List.getElem_cons_zero, List.setIfInBounds_toArray, List.set_cons_zero, List.set_cons_succ])
  refine wpAnyH_take (i := 8) (v := ?_) rfl (by kernel_rfl) (by kernel_rfl) (by kernel_rfl) (fun _ _ _ h => h) (Or.inl ⟨by rfl, ?_⟩) (by assumption) ?_
  rotate_left
  · intro w hSw; (try dsimp only at hSw); go_simp; first | done | with_reducible rfl
  (try simp only [Act.put, Array.getInternal_eq_getElem, List.getElem_toArray, List.getElem_cons_succ, List.getElem_cons_zero, List.setIfInBounds_toArray, List.set_cons_zero, List.set_cons_succ])
  refine wpAnyH_take (i := 9) (v := ?_) rfl (by kernel_rfl) (by kernel_rfl) (by kernel_rfl) (fun _ _ _ h => h) (Or.inl ⟨by rfl, ?_⟩) (by assumption) ?_
  rotate_left
  · intro w hSw; (try dsimp only at hSw); go_simp; first | done | with_reducible rfl
  (try simp only [Act.put, Array.getInternal_eq_getElem, List.getElem_toArray, List.getElem_cons_succ, List.getElem_cons_zero, List.setIfInBounds_toArray, List.set_cons_zero, List.set_cons_succ])
  refine wpAnyH_take (i := 10) (v := ?_) rfl (by kernel_rfl) (by kernel_rfl) (by kernel_rfl) (fun _ _ _ h => h) (Or.inl ⟨by rfl, ?_⟩) (by assumption) ?_
  rotate_left
  · intro w hSw; (try dsimp only at hSw); go_simp; first | done | with_reducible rfl
  (try simp only [Act.put, Array.getInternal_eq_getElem, List.getElem_toArray, List.getElem_cons_succ, List.getElem_cons_zero, List.setIfInBounds_toArray, List.set_cons_zero, List.set_cons_succ])
  refine wpAnyH_take (i := 11) (v := ?_) rfl (by kernel_rfl) (by kernel_rfl) (by kernel_rfl) (fun _ _ _ h => h) (Or.inl ⟨by rfl, ?_⟩) (by assumption) ?_
  rotate_left
  · intro w hSw; (try dsimp only at hSw); go_simp; first | done | with_reducible rfl
  (try simp only [Act.put, Array.getInternal_eq_getElem, List.getElem_toArray, List.getElem_cons_succ, List.getElem_cons_zero, List.setIfInBounds_toArray, List.set_cons_zero, List.set_cons_succ])
  refine wpAnyH_take (i := 12) (v := ?_) rfl (by kernel_rfl) (by kernel_rfl) (by kernel_rfl) (fun _ _ _ h => h) (Or.inl ⟨by rfl, ?_⟩) (by assumption) ?_
  rotate_left
  · intro w hSw; (try dsimp only at hSw); go_simp; first | done | with_reducible rfl
  (try simp only [Act.put, Array.getInternal_eq_getElem, List.getElem_toArray, List.getElem_cons_succ, List.getElem_cons_zero, List.setIfInBounds_toArray, List.set_cons_zero, List.set_cons_succ])
  refine wpAnyH_take (i := 14) (v := ?_) rfl (by kernel_rfl) (by kernel_rfl) (by kernel_rfl) (fun _ _ _ h => h) (Or.inl ⟨by rfl, ?_⟩) (by assumption) ?_
  rotate_left
  · intro w hSw; (try dsimp only at hSw); go_simp; first | done | with_reducible rfl
  (try simp only [Act.put, Array.getInternal_eq_getElem, List.getElem_toArray, List.getElem_cons_succ, List.getElem_cons_zero, List.setIfInBounds_toArray, List.set_cons_zero, List.set_cons_succ])
  refine wpAnyH_take (i := 15) (v := ?_) rfl (by kernel_rfl) (by kernel_rfl) (by kernel_rfl) (fun _ _ _ h => h) (Or.inl ⟨by rfl, ?_⟩) (by assumption) ?_
  rotate_left
  · intro w hSw; (try dsimp only at hSw); go_simp; first | done | with_reducible rfl
  (try simp only [Act.put, Array.getInternal_eq_getElem, List.getElem_toArray, List.getElem_cons_succ, List.getElem_cons_zero, List.setIfInBounds_toArray, List.set_cons_zero, List.set_cons_succ])
  refine wpAnyH_take (i := 17) (v := ?_) rfl (by kernel_rfl) (by kernel_rfl) (by kernel_rfl) (fun _ _ _ h => h) (Or.inl ⟨by rfl, ?_⟩) (by assumption) ?_
  rotate_left
  · intro w hSw; (try dsimp only at hSw); go_simp; first | done | with_reducible rfl
  (try simp only [Act.put, Array.getInternal_eq_getElem, List.getElem_toArray, List.getElem_cons_succ, List.getElem_cons_zero, List.setIfInBounds_toArray, List.set_cons_zero, List.set_cons_succ])
  refine wpAnyH_take (i := 18) (v := .agg (mzero).toArray) rfl (by kernel_rfl) (by kernel_rfl) (by kernel_rfl) (fun _ _ _ h => h) (yieldsIf_load_mid (by rfl) 39 (.tmp 24) rfl b3 0 rfl (mzero) _ (fun w h => h.2.2.2.1) Tryz.underlying39 rfl sizeMsg) (by assumption) ?_
  (try simp only [Act.put, Array.getInternal_eq_getElem, List.getElem_toArray, List.getElem_cons_succ, List.getElem_cons_zero, List.setIfInBounds_toArray, List.set_cons_zero, List.set_cons_succ])
  have HE5 := Lib.hid (show Below w5.heap.size w5 w5 from Below.refl _ _)
  have HR5 := Lib.hid (HR.out.below HB5.out)
  have HFT := Lib.hid (HFH.out.below HB5.out)
  have HFA := Lib.hid (fitsSnoc HFT.out)
  refine wpAnyH_ready (rs := [13, 19]) (by kernel_rfl) (by simp) ?_
  refine AllReadyH.cons rfl (fun K hK => ?_) (AllReadyH.cons rfl (fun K hK => ?_) AllReadyH.nil)
  · go_simp
    obtain ⟨w6, hw6⟩ : ∃ w6, w6 = w5.alloc (Obj.cells #[] 39) := ⟨_, rfl⟩
    rw [← hw6]
    have HE6 := Lib.hid (show Below w5.heap.size w5 w6 by rw [hw6]; exact HE5.out.alloc HE5.out.size _)
    obtain ⟨vo, hvo⟩ : ∃ vo, vo = Value.slice (some ⟨w5.heap.size, 0, none⟩) 0 0 := ⟨_, rfl⟩
    have HO6 : Hid (w6.ownsRow w5.heap.size 39 41 vo 0 (flatH [])) := Lib.hid (by rw [hw6, hvo]; exact World.ownsRow_lit w5 #[] 0 HE5.out.size (by decide) rfl)
    have HVO := Lib.hid (show vo.ownBlock = some w5.heap.size by rw [hvo]; rfl)
    have HSZ := Lib.hid (show w5.heap.size < w6.heap.size by rw [hw6]; simp)
    rw [← hvo]
    clear hw6 hvo
    refine hK.out _ _ (⟨(HX5.out.below HE6.out HX5.out.lt).cell (i := 0) rfl, (HX5.out.below HE6.out HX5.out.lt).cell (i := 1) rfl, (HX5.out.below HE6.out HX5.out.lt).cell (i := 2) rfl, seenMsg (HY5.out.below HE6.out HY5.out.lt), (HY5.out.below HE6.out HY5.out.lt).cell (i := 41) rfl, (HY5.out.below HE6.out HY5.out.lt).cell (i := 42) rfl⟩) (fun hHeld2 => ?_)
    clear hK K hHeld
    have hHeld := hHeld2
    clear hHeld2
    (try simp only [Act.put, Array.getInternal_eq_getElem, List.getElem_toArray, List.getElem_cons_succ, List.getElem_cons_zero, List.setIfInBounds_toArray, List.set_cons_zero, List.set_cons_succ])
    refine wpAnyH_ready (rs := [16, 19]) (by kernel_rfl) (by simp) ?_
    refine AllReadyH.cons rfl (fun K hK => ?_) (AllReadyH.cons rfl (fun K hK => ?_) AllReadyH.nil)
    · rw [if_pos (by rfl)]
      refine wp_append_heads _ _ rfl w5.heap.size vo 0 (flatH []) rfl HO6.out hs2 (.slice p n c) rfl (HR5.out.below HE6.out) (HFT.out.below HE6.out) HNL.out (by have := HLEN.out; omega) HE6.out.size ?_
      intro v1 w7 own1 hb7 hcar
      have HO7 := Lib.hid own1
      have HE7 := Lib.hid (HE6.out.trans hb7)
      clear own1 hb7 hcar
      refine hK.out _ _ (⟨(HX5.out.below HE7.out HX5.out.lt).cell (i := 0) rfl, (HX5.out.below HE7.out HX5.out.lt).cell (i := 1) rfl, (HX5.out.below HE7.out HX5.out.lt).cell (i := 2) rfl, seenMsg (HY5.out.below HE7.out HY5.out.lt), (HY5.out.below HE7.out HY5.out.lt).cell (i := 41) rfl, (HY5.out.below HE7.out HY5.out.lt).cell (i := 42) rfl⟩) (fun hHeld2 => ?_)
      clear hK K hHeld
      have hHeld := hHeld2
      clear hHeld2
      (try simp only [Act.put, Array.getInternal_eq_getElem, List.getElem_toArray, List.getElem_cons_succ, List.getElem_cons_zero, List.setIfInBounds_toArray, List.set_cons_zero, List.set_cons_succ])
      refine wpAnyH_ready (rs := [19]) (by kernel_rfl) (by simp) ?_
      refine AllReadyH.cons rfl (fun K hK => ?_) AllReadyH.nil
      rw [if_pos (by rfl)]
      refine wp_slice_new 54 39 1 _ mzero (.agg (mzero).toArray) 41 464 Tryz.underlying54 infoMsgX (by omega) (by omega) rfl (by kernel_rfl) ?_
      intro g w8 lg Bg hb8 zg
      have HG8 := Lib.hid Bg
      have HE8 := Lib.hid (HE7.out.trans (hb8.mono (Nat.le_trans HE7.out.size lg)))
      have HO8 := Lib.hid (own_below (hb8.mono lg) HO7.out)
      clear lg Bg hb8 zg
      refine hK.out _ _ (⟨(HX5.out.below HE8.out HX5.out.lt).cell (i := 0) rfl, (HX5.out.below HE8.out HX5.out.lt).cell (i := 1) rfl, (HX5.out.below HE8.out HX5.out.lt).cell (i := 2) rfl, seenMsg (HY5.out.below HE8.out HY5.out.lt), (HY5.out.below HE8.out HY5.out.lt).cell (i := 41) rfl, (HY5.out.below HE8.out HY5.out.lt).cell (i := 42) rfl⟩) (fun hHeld2 => ?_)
      clear hK K hHeld
      have hHeld := hHeld2
      clear hHeld2
      (try simp only [Act.put, Array.getInternal_eq_getElem, List.getElem_toArray, List.getElem_cons_succ, List.getElem_cons_zero, List.setIfInBounds_toArray, List.set_cons_zero, List.set_cons_succ])
      refine wpAnyH_ready (rs := [20]) (by kernel_rfl) (by simp) ?_
      refine AllReadyH.cons rfl (fun K hK => ?_) AllReadyH.nil
      rw [if_pos (by rfl)]
      refine wp_append_heads _ _ rfl w5.heap.size v1 _ _ rfl HO8.out [zeroHd] (.slice (some ⟨g, 0, none⟩) 1 1) rfl (zeroRow HG8.out) (zeroFit _) (.inr ⟨_, _, _, rfl⟩) (by have := HLEN.out; simp; omega) HE8.out.size ?_
      intro v2 w9 own2 hb9 hcar
      have HO9 := Lib.hid own2
      have HE9 := Lib.hid (HE8.out.trans hb9)
      clear own2 hb9 hcar
      refine hK.out _ _ (⟨(HX5.out.below HE9.out HX5.out.lt).cell (i := 0) rfl, (HX5.out.below HE9.out HX5.out.lt).cell (i := 1) rfl, (HX5.out.below HE9.out HX5.out.lt).cell (i := 2) rfl, seenMsg (HY5.out.below HE9.out HY5.out.lt), (HY5.out.below HE9.out HY5.out.lt).cell (i := 41) rfl, (HY5.out.below HE9.out HY5.out.lt).cell (i := 42) rfl⟩) (fun hHeld2 => ?_)
      clear hK K hHeld
      have hHeld := hHeld2
      clear hHeld2
      (try simp only [Act.put, Array.getInternal_eq_getElem, List.getElem_toArray, List.getElem_cons_succ, List.getElem_cons_zero, List.setIfInBounds_toArray, List.set_cons_zero, List.set_cons_succ])
      have HLN := Lib.hid (show 0 + hs2.length + [zeroHd].length = (hs2 ++ [zeroHd]).length by simp)
      refine wpAnyH_ready (rs := [21]) (by kernel_rfl) (by simp) ?_
      refine AllReadyH.cons rfl (fun K hK => ?_) AllReadyH.nil
      go_simp
      refine (rfew32_walk cv v2 cl (hs2 ++ [zeroHd]) _ (HCR.out.below (HB5.out.trans (HE9.out.mono HB5.out.size))) (HdRow.own (by have := HO9.out; simpa [flatH] using this) HLN.out) (HFA.out.below HE9.out)).mono ?_
      rintro e w90 ⟨he, hb90⟩
      obtain ⟨q, rfl, hq⟩ := he
      have HQ := Lib.hid hq
      have HX9 := Lib.hid ((HX5.out.below HE9.out HX5.out.lt).below hb90 (HX5.out.below HE9.out HX5.out.lt).lt)
      have HY9 := Lib.hid ((HY5.out.below HE9.out HY5.out.lt).below hb90 (HY5.out.below HE9.out HY5.out.lt).lt)
      have HB9 := Lib.hid ((HB5.out.trans (HE9.out.mono HB5.out.size)).trans (hb90.mono (HB5.out.trans (HE9.out.mono HB5.out.size)).size))
      clear hb90 hq
      (try go_wp2_with fail)
      refine hK.out _ _ (⟨HX9.out.cell (i := 0) rfl, HX9.out.cell (i := 1) rfl, HX9.out.cell (i := 2) rfl, seenMsg HY9.out, HY9.out.cell (i := 41) rfl, HY9.out.cell (i := 42) rfl⟩) (fun hHeld2 => ?_)
      clear hK K hHeld
      have hHeld := hHeld2
      clear hHeld2
      (try simp only [Act.put, Array.getInternal_eq_getElem, List.getElem_toArray, List.getElem_cons_succ, List.getElem_cons_zero, List.setIfInBounds_toArray, List.set_cons_zero, List.set_cons_succ])
      cases q with
      | false =>
        refine wpAnyH_take (i := 22) (v := ?_) rfl (by kernel_rfl) (by kernel_rfl) (by kernel_rfl) (fun _ _ _ h => h) (Or.inl ⟨by rfl, ?_⟩) (by assumption) ?_
        rotate_left
        · intro w hSw; (try dsimp only at hSw); go_simp; first | done | with_reducible rfl
        (try simp only [Act.put, Array.getInternal_eq_getElem, List.getElem_toArray, List.getElem_cons_succ, List.getElem_cons_zero, List.setIfInBounds_toArray, List.set_cons_zero, List.set_cons_succ])
        refine wpAnyH_take (i := 23) (v := ?_) rfl (by kernel_rfl) (by kernel_rfl) (by kernel_rfl) (fun _ _ _ h => h) (Or.inl ⟨by rfl, ?_⟩) (by assumption) ?_
        rotate_left
        · intro w hSw; (try dsimp only at hSw); go_simp; first | done | with_reducible rfl
        (try simp only [Act.put, Array.getInternal_eq_getElem, List.getElem_toArray, List.getElem_cons_succ, List.getElem_cons_zero, List.setIfInBounds_toArray, List.set_cons_zero, List.set_cons_succ])
        refine wpAnyH_take (i := 24) (v := ?_) rfl (by kernel_rfl) (by kernel_rfl) (by kernel_rfl) (fun _ _ _ h => h) (Or.inl ⟨by rfl, ?_⟩) (by assumption) ?_
        rotate_left
        · intro w hSw; (try dsimp only at hSw); go_simp; first | done | with_reducible rfl
        (try simp only [Act.put, Array.getInternal_eq_getElem, List.getElem_toArray, List.getElem_cons_succ, List.getElem_cons_zero, List.setIfInBounds_toArray, List.set_cons_zero, List.set_cons_succ])
        refine wpAnyH_take (i := 25) (v := undef) rfl (by kernel_rfl) (by kernel_rfl) (by kernel_rfl) (fun _ _ _ h => h) (Or.inr ⟨by rfl, rfl⟩) (by assumption) ?_
        (try simp only [Act.put, Array.getInternal_eq_getElem, List.getElem_toArray, List.getElem_cons_succ, List.getElem_cons_zero, List.setIfInBounds_toArray, List.set_cons_zero, List.set_cons_succ])
        refine wpAnyH_take (i := 26) (v := undef) rfl (by kernel_rfl) (by kernel_rfl) (by kernel_rfl) (fun _ _ _ h => h) (Or.inr ⟨by rfl, rfl⟩) (by assumption) ?_
        (try simp only [Act.put, Array.getInternal_eq_getElem, List.getElem_toArray, List.getElem_cons_succ, List.getElem_cons_zero, List.setIfInBounds_toArray, List.set_cons_zero, List.set_cons_succ])
        refine wpAnyH_take (i := 27) (v := undef) rfl (by kernel_rfl) (by kernel_rfl) (by kernel_rfl) (fun _ _ _ h => h) (Or.inr ⟨by rfl, rfl⟩) (by assumption) ?_
        (try simp only [Act.put, Array.getInternal_eq_getElem, List.getElem_toArray, List.getElem_cons_succ, List.getElem_cons_zero, List.setIfInBounds_toArray, List.set_cons_zero, List.set_cons_succ])
        refine wpAnyH_take (i := 28) (v := undef) rfl (by kernel_rfl) (by kernel_rfl) (by kernel_rfl) (fun _ _ _ h => h) (Or.inr ⟨by rfl, rfl⟩) (by assumption) ?_
        (try simp only [Act.put, Array.getInternal_eq_getElem, List.getElem_toArray, List.getElem_cons_succ, List.getElem_cons_zero, List.setIfInBounds_toArray, List.set_cons_zero, List.set_cons_succ])
        refine wpAnyH_take (i := 29) (v := ?_) rfl (by kernel_rfl) (by kernel_rfl) (by kernel_rfl) (fun _ _ _ h => h) (Or.inl ⟨by rfl, ?_⟩) (by assumption) ?_
        rotate_left
        · intro w hSw; (try dsimp only at hSw); go_simp; first | done | with_reducible rfl
        (try simp only [Act.put, Array.getInternal_eq_getElem, List.getElem_toArray, List.getElem_cons_succ, List.getElem_cons_zero, List.setIfInBounds_toArray, List.set_cons_zero, List.set_cons_succ])
        refine wpAnyH_done (by kernel_rfl) ?_ _
        go_wp2_with fail
        go_ret
        exact ⟨⟨false, rfl, fun h => by cases h⟩, HB9.out⟩
      | true =>
        refine wpAnyH_take (i := 22) (v := ?_) rfl (by kernel_rfl) (by kernel_rfl) (by kernel_rfl) (fun _ _ _ h => h) (Or.inl ⟨by rfl, ?_⟩) (by assumption) ?_
        rotate_left
        · intro w hSw; (try dsimp only at hSw); go_simp; first | done | with_reducible rfl
        (try simp only [Act.put, Array.getInternal_eq_getElem, List.getElem_toArray, List.getElem_cons_succ, List.getElem_cons_zero, List.setIfInBounds_toArray, List.set_cons_zero, List.set_cons_succ])
        refine wpAnyH_take (i := 23) (v := ?_) rfl (by kernel_rfl) (by kernel_rfl) (by kernel_rfl) (fun _ _ _ h => h) (Or.inl ⟨by rfl, ?_⟩) (by assumption) ?_
        rotate_left
        · intro w hSw; (try dsimp only at hSw); go_simp; first | done | with_reducible rfl
        (try simp only [Act.put, Array.getInternal_eq_getElem, List.getElem_toArray, List.getElem_cons_succ, List.getElem_cons_zero, List.setIfInBounds_toArray, List.set_cons_zero, List.set_cons_succ])
        refine wpAnyH_take (i := 24) (v := ?_) rfl (by kernel_rfl) (by kernel_rfl) (by kernel_rfl) (fun _ _ _ h => h) (Or.inl ⟨by rfl, ?_⟩) (by assumption) ?_
        rotate_left
        · intro w hSw; (try dsimp only at hSw); go_simp; first | done | with_reducible rfl
        (try simp only [Act.put, Array.getInternal_eq_getElem, List.getElem_toArray, List.getElem_cons_succ, List.getElem_cons_zero, List.setIfInBounds_toArray, List.set_cons_zero, List.set_cons_succ])
        refine wpAnyH_take (i := 25) (v := ?_) rfl (by kernel_rfl) (by kernel_rfl) (by kernel_rfl) (fun _ _ _ h => h) (Or.inl ⟨by rfl, ?_⟩) (by assumption) ?_
        rotate_left
        · intro w hSw; (try dsimp only at hSw); go_simp; first | done | with_reducible rfl
        (try simp only [Act.put, Array.getInternal_eq_getElem, List.getElem_toArray, List.getElem_cons_succ, List.getElem_cons_zero, List.setIfInBounds_toArray, List.set_cons_zero, List.set_cons_succ])
        refine wpAnyH_take (i := 26) (v := ?_) rfl (by kernel_rfl) (by kernel_rfl) (by kernel_rfl) (fun _ _ _ h => h) (Or.inl ⟨by rfl, ?_⟩) (by assumption) ?_
        rotate_left
        · intro w hSw; (try dsimp only at hSw); go_simp; first | done | with_reducible rfl
        (try simp only [Act.put, Array.getInternal_eq_getElem, List.getElem_toArray, List.getElem_cons_succ, List.getElem_cons_zero, List.setIfInBounds_toArray, List.set_cons_zero, List.set_cons_succ])
        refine wpAnyH_take (i := 27) (v := ?_) rfl (by kernel_rfl) (by kernel_rfl) (by kernel_rfl) (fun _ _ _ h => h) (Or.inl ⟨by rfl, ?_⟩) (by assumption) ?_
        rotate_left
        · intro w hSw; (try dsimp only at hSw); go_simp; first | done | with_reducible rfl
        (try simp only [Act.put, Array.getInternal_eq_getElem, List.getElem_toArray, List.getElem_cons_succ, List.getElem_cons_zero, List.setIfInBounds_toArray, List.set_cons_zero, List.set_cons_succ])
        refine wpAnyH_take (i := 28) (v := ?_) rfl (by kernel_rfl) (by kernel_rfl) (by kernel_rfl) (fun _ _ _ h => h) (Or.inl ⟨by rfl, ?_⟩) (by assumption) ?_
        rotate_left
        · intro w hSw; (try dsimp only at hSw); go_simp; first | done | with_reducible rfl
        (try simp only [Act.put, Array.getInternal_eq_getElem, List.getElem_toArray, List.getElem_cons_succ, List.getElem_cons_zero, List.setIfInBounds_toArray, List.set_cons_zero, List.set_cons_succ])
        refine wpAnyH_take (i := 29) (v := ?_) rfl (by kernel_rfl) (by kernel_rfl) (by kernel_rfl) (fun _ _ _ h => h) (Or.inl ⟨by rfl, ?_⟩) (by assumption) ?_
        rotate_left
        · intro w hSw; (try dsimp only at hSw); go_simp; first | done | with_reducible rfl
        (try simp only [Act.put, Array.getInternal_eq_getElem, List.getElem_toArray, List.getElem_cons_succ, List.getElem_cons_zero, List.setIfInBounds_toArray, List.set_cons_zero, List.set_cons_succ])
        refine wpAnyH_done (by kernel_rfl) ?_ _
        have y42 := HY9.out.cell (i := 42) rfl
        go_wp2_with fail
        go_loopw [40] (fun i wr => i = .int .i64 0 ∧ wr = w90) (fun _ _ => 0)
        case atStart => exact ⟨rfl, rfl⟩
        case round =>
          obtain ⟨rfl, rfl⟩ := hrel
          go_wp2_with fail
          go_ret
          refine ⟨⟨true, rfl, fun _ => ⟨?_, fun j h hj => ?_⟩⟩, HB9.out⟩
          · have := (HQ.out (by trivial)).1; rw [List.length_append] at this; simp at this; omega
          · exact (HQ.out (by trivial)).2 j h (by rw [List.getElem?_append_left (List.getElem?_eq_some_iff.1 hj).1]; exact hj)
    · rw [if_pos (by rfl)]
      refine wp_slice_new 54 39 1 _ mzero (.agg (mzero).toArray) 41 464 Tryz.underlying54 infoMsgX (by omega) (by omega) rfl (by kernel_rfl) ?_
      intro g w10 lg Bg hb10 zg
      have HG10 := Lib.hid Bg
      have HE10 := Lib.hid (HE6.out.trans (hb10.mono (Nat.le_trans HE6.out.size lg)))
      have HO10 := Lib.hid (own_below (hb10.mono lg) HO6.out)
      have HNB := Lib.hid (show some g ≠ vo.ownBlock by rw [HVO.out]; intro e; injection e with e; have := HSZ.out; omega)
      clear lg Bg hb10 zg
      refine hK.out _ _ (⟨(HX5.out.below HE10.out HX5.out.lt).cell (i := 0) rfl, (HX5.out.below HE10.out HX5.out.lt).cell (i := 1) rfl, (HX5.out.below HE10.out HX5.out.lt).cell (i := 2) rfl, seenMsg (HY5.out.below HE10.out HY5.out.lt), (HY5.out.below HE10.out HY5.out.lt).cell (i := 41) rfl, (HY5.out.below HE10.out HY5.out.lt).cell (i := 42) rfl⟩) (fun hHeld2 => ?_)
      clear hK K hHeld
      have hHeld := hHeld2
      clear hHeld2
      (try simp only [Act.put, Array.getInternal_eq_getElem, List.getElem_toArray, List.getElem_cons_succ, List.getElem_cons_zero, List.setIfInBounds_toArray, List.set_cons_zero, List.set_cons_succ])
      refine wpAnyH_ready (rs := [16]) (by kernel_rfl) (by simp) ?_
      refine AllReadyH.cons rfl (fun K hK => ?_) AllReadyH.nil
      rw [if_pos (by rfl)]
      refine wp_append_heads _ _ rfl w5.heap.size vo 0 (flatH []) rfl HO10.out hs2 (.slice p n c) rfl (HR5.out.below HE10.out) (HFT.out.below HE10.out) HNL.out (by have := HLEN.out; omega) HE10.out.size ?_
      intro v1 w11 own1 hb11 hcar
      have HO11 := Lib.hid own1
      have HE11 := Lib.hid (HE10.out.trans hb11)
      have HG11 := Lib.hid (hcar _ _ _ HG10.out HNB.out)
      clear own1 hb11 hcar
      refine hK.out _ _ (⟨(HX5.out.below HE11.out HX5.out.lt).cell (i := 0) rfl, (HX5.out.below HE11.out HX5.out.lt).cell (i := 1) rfl, (HX5.out.below HE11.out HX5.out.lt).cell (i := 2) rfl, seenMsg (HY5.out.below HE11.out HY5.out.lt), (HY5.out.below HE11.out HY5.out.lt).cell (i := 41) rfl, (HY5.out.below HE11.out HY5.out.lt).cell (i := 42) rfl⟩) (fun hHeld2 => ?_)
      clear hK K hHeld
      have hHeld := hHeld2
      clear hHeld2
      (try simp only [Act.put, Array.getInternal_eq_getElem, List.getElem_toArray, List.getElem_cons_succ, List.getElem_cons_zero, List.setIfInBounds_toArray, List.set_cons_zero, List.set_cons_succ])
      refine wpAnyH_ready (rs := [20]) (by kernel_rfl) (by simp) ?_
      refine AllReadyH.cons rfl (fun K hK => ?_) AllReadyH.nil
      rw [if_pos (by rfl)]
      refine wp_append_heads _ _ rfl w5.heap.size v1 _ _ rfl HO11.out [zeroHd] (.slice (some ⟨g, 0, none⟩) 1 1) rfl (zeroRow HG11.out) (zeroFit _) (.inr ⟨_, _, _, rfl⟩) (by have := HLEN.out; simp; omega) HE11.out.size ?_
      intro v2 w12 own2 hb12 hcar
      have HO12 := Lib.hid own2
      have HE12 := Lib.hid (HE11.out.trans hb12)
      clear own2 hb12 hcar
      refine hK.out _ _ (⟨(HX5.out.below HE12.out HX5.out.lt).cell (i := 0) rfl, (HX5.out.below HE12.out HX5.out.lt).cell (i := 1) rfl, (HX5.out.below HE12.out HX5.out.lt).cell (i := 2) rfl, seenMsg (HY5.out.below HE12.out HY5.out.lt), (HY5.out.below HE12.out HY5.out.lt).cell (i := 41) rfl, (HY5.out.below HE12.out HY5.out.lt).cell (i := 42) rfl⟩) (fun hHeld2 => ?_)
      clear hK K hHeld
      have hHeld := hHeld2
      clear hHeld2
      (try simp only [Act.put, Array.getInternal_eq_getElem, List.getElem_toArray, List.getElem_cons_succ, List.getElem_cons_zero, List.setIfInBounds_toArray, List.set_cons_zero, List.set_cons_succ])
      have HLN := Lib.hid (show 0 + hs2.length + [zeroHd].length = (hs2 ++ [zeroHd]).length by simp)
      refine wpAnyH_ready (rs := [21]) (by kernel_rfl) (by simp) ?_
      refine AllReadyH.cons rfl (fun K hK => ?_) AllReadyH.nil
      go_simp
      refine (rfew32_walk cv v2 cl (hs2 ++ [zeroHd]) _ (HCR.out.below (HB5.out.trans (HE12.out.mono HB5.out.size))) (HdRow.own (by have := HO12.out; simpa [flatH] using this) HLN.out) (HFA.out.below HE12.out)).mono ?_
      rintro e w90 ⟨he, hb90⟩
      obtain ⟨q, rfl, hq⟩ := he
      have HQ := Lib.hid hq
      have HX9 := Lib.hid ((HX5.out.below HE12.out HX5.out.lt).below hb90 (HX5.out.below HE12.out HX5.out.lt).lt)
      have HY9 := Lib.hid ((HY5.out.below HE12.out HY5.out.lt).below hb90 (HY5.out.below HE12.out HY5.out.lt).lt)
      have HB9 := Lib.hid ((HB5.out.trans (HE12.out.mono HB5.out.size)).trans (hb90.mono (HB5.out.trans (HE12.out.mono HB5.out.size)).size))
      clear hb90 hq
      (try go_wp2_with fail)
      refine hK.out _ _ (⟨HX9.out.cell (i := 0) rfl, HX9.out.cell (i := 1) rfl, HX9.out.cell (i := 2) rfl, seenMsg HY9.out, HY9.out.cell (i := 41) rfl, HY9.out.cell (i := 42) rfl⟩) (fun hHeld2 => ?_)
      clear hK K hHeld
      have hHeld := hHeld2
      clear hHeld2
      (try simp only [Act.put, Array.getInternal_eq_getElem, List.getElem_toArray, List.getElem_cons_succ, List.getElem_cons_zero, List.setIfInBounds_toArray, List.set_cons_zero, List.set_cons_succ])
      cases q with
      | false =>
        refine wpAnyH_take (i := 22) (v := ?_) rfl (by kernel_rfl) (by kernel_rfl) (by kernel_rfl) (fun _ _ _ h => h) (Or.inl ⟨by rfl, ?_⟩) (by assumption) ?_
        rotate_left
        · intro w hSw; (try dsimp only at hSw); go_simp; first | done | with_reducible rfl
        (try simp only [Act.put, Array.getInternal_eq_getElem, List.getElem_toArray, List.getElem_cons_succ, List.getElem_cons_zero, List.setIfInBounds_toArray, List.set_cons_zero, List.set_cons_succ])
        refine wpAnyH_take (i := 23) (v := ?_) rfl (by kernel_rfl) (by kernel_rfl) (by kernel_rfl) (fun _ _ _ h => h) (Or.inl ⟨by rfl, ?_⟩) (by assumption) ?_
        rotate_left
        · intro w hSw; (try dsimp only at hSw); go_simp; first | done | with_reducible rfl
        (try simp only [Act.put, Array.getInternal_eq_getElem, List.getElem_toArray, List.getElem_cons_succ, List.getElem_cons_zero, List.setIfInBounds_toArray, List.set_cons_zero, List.set_cons_succ])
        refine wpAnyH_take (i := 24) (v := ?_) rfl (by kernel_rfl) (by kernel_rfl) (by kernel_rfl) (fun _ _ _ h => h) (Or.inl ⟨by rfl, ?_⟩) (by assumption) ?_
        rotate_left
        · intro w hSw; (try dsimp only at hSw); go_simp; first | done | with_reducible rfl
        (try simp only [Act.put, Array.getInternal_eq_getElem, List.getElem_toArray, List.getElem_cons_succ, List.getElem_cons_zero, List.setIfInBounds_toArray, List.set_cons_zero, List.set_cons_succ])
        refine wpAnyH_take (i := 25) (v := undef) rfl (by kernel_rfl) (by kernel_rfl) (by kernel_rfl) (fun _ _ _ h => h) (Or.inr ⟨by rfl, rfl⟩) (by assumption) ?_
        (try simp only [Act.put, Array.getInternal_eq_getElem, List.getElem_toArray, List.getElem_cons_succ, List.getElem_cons_zero, List.setIfInBounds_toArray, List.set_cons_zero, List.set_cons_succ])
        refine wpAnyH_take (i := 26) (v := undef) rfl (by kernel_rfl) (by kernel_rfl) (by kernel_rfl) (fun _ _ _ h => h) (Or.inr ⟨by rfl, rfl⟩) (by assumption) ?_
        (try simp only [Act.put, Array.getInternal_eq_getElem, List.getElem_toArray, List.getElem_cons_succ, List.getElem_cons_zero, List.setIfInBounds_toArray, List.set_cons_zero, List.set_cons_succ])
        refine wpAnyH_take (i := 27) (v := undef) rfl (by kernel_rfl) (by kernel_rfl) (by kernel_rfl) (fun _ _ _ h => h) (Or.inr ⟨by rfl, rfl⟩) (by assumption) ?_
        (try simp only [Act.put, Array.getInternal_eq_getElem, List.getElem_toArray, List.getElem_cons_succ, List.getElem_cons_zero, List.setIfInBounds_toArray, List.set_cons_zero, List.set_cons_succ])
        refine wpAnyH_take (i := 28) (v := undef) rfl (by kernel_rfl) (by kernel_rfl) (by kernel_rfl) (fun _ _ _ h => h) (Or.inr ⟨by rfl, rfl⟩) (by assumption) ?_
        (try simp only [Act.put, Array.getInternal_eq_getElem, List.getElem_toArray, List.getElem_cons_succ, List.getElem_cons_zero, List.setIfInBounds_toArray, List.set_cons_zero, List.set_cons_succ])
        refine wpAnyH_take (i := 29) (v := ?_) rfl (by kernel_rfl) (by kernel_rfl) (by kernel_rfl) (fun _ _ _ h => h) (Or.inl ⟨by rfl, ?_⟩) (by assumption) ?_
        rotate_left
        · intro w hSw; (try dsimp only at hSw); go_simp; first | done | with_reducible rfl
        (try simp only [Act.put, Array.getInternal_eq_getElem, List.getElem_toArray, List.getElem_cons_succ, List.getElem_cons_zero, List.setIfInBounds_toArray, List.set_cons_zero, List.set_cons_succ])
        refine wpAnyH_done (by kernel_rfl) ?_ _
        go_wp2_with fail
        go_ret
        exact ⟨⟨false, rfl, fun h => by cases h⟩, HB9.out⟩
      | true =>
        refine wpAnyH_take (i := 22) (v := ?_) rfl (by kernel_rfl) (by kernel_rfl) (by kernel_rfl) (fun _ _ _ h => h) (Or.inl ⟨by rfl, ?_⟩) (by assumption) ?_
        rotate_left
        · intro w hSw; (try dsimp only at hSw); go_simp; first | done | with_reducible rfl
        (try simp only [Act.put, Array.getInternal_eq_getElem, List.getElem_toArray, List.getElem_cons_succ, List.getElem_cons_zero, List.setIfInBounds_toArray, List.set_cons_zero, List.set_cons_succ])
        refine wpAnyH_take (i := 23) (v := ?_) rfl (by kernel_rfl) (by kernel_rfl) (by kernel_rfl) (fun _ _ _ h => h) (Or.inl ⟨by rfl, ?_⟩) (by assumption) ?_
        rotate_left
        · intro w hSw; (try dsimp only at hSw); go_simp; first | done | with_reducible rfl
        (try simp only [Act.put, Array.getInternal_eq_getElem, List.getElem_toArray, List.getElem_cons_succ, List.getElem_cons_zero, List.setIfInBounds_toArray, List.set_cons_zero, List.set_cons_succ])
        refine wpAnyH_take (i := 24) (v := ?_) rfl (by kernel_rfl) (by kernel_rfl) (by kernel_rfl) (fun _ _ _ h => h) (Or.inl ⟨by rfl, ?_⟩) (by assumption) ?_
        rotate_left
        · intro w hSw; (try dsimp only at hSw); go_simp; first | done | with_reducible rfl
        (try simp only [Act.put, Array.getInternal_eq_getElem, List.getElem_toArray, List.getElem_cons_succ, List.getElem_cons_zero, List.setIfInBounds_toArray, List.set_cons_zero, List.set_cons_succ])
        refine wpAnyH_take (i := 25) (v := ?_) rfl (by kernel_rfl) (by kernel_rfl) (by kernel_rfl) (fun _ _ _ h => h) (Or.inl ⟨by rfl, ?_⟩) (by assumption) ?_
        rotate_left
        · intro w hSw; (try dsimp only at hSw); go_simp; first | done | with_reducible rfl
        (try simp only [Act.put, Array.getInternal_eq_getElem, List.getElem_toArray, List.getElem_cons_succ, List.getElem_cons_zero, List.setIfInBounds_toArray, List.set_cons_zero, List.set_cons_succ])
        refine wpAnyH_take (i := 26) (v := ?_) rfl (by kernel_rfl) (by kernel_rfl) (by kernel_rfl) (fun _ _ _ h => h) (Or.inl ⟨by rfl, ?_⟩) (by assumption) ?_
        rotate_left
        · intro w hSw; (try dsimp only at hSw); go_simp; first | done | with_reducible rfl
        (try simp only [Act.put, Array.getInternal_eq_getElem, List.getElem_toArray, List.getElem_cons_succ, List.getElem_cons_zero, List.setIfInBounds_toArray, List.set_cons_zero, List.set_cons_succ])
        refine wpAnyH_take (i := 27) (v := ?_) rfl (by kernel_rfl) (by kernel_rfl) (by kernel_rfl) (fun _ _ _ h => h) (Or.inl ⟨by rfl, ?_⟩) (by assumption) ?_
        rotate_left
        · intro w hSw; (try dsimp only at hSw); go_simp; first | done | with_reducible rfl
        (try simp only [Act.put, Array.getInternal_eq_getElem, List.getElem_toArray, List.getElem_cons_succ, List.getElem_cons_zero, List.setIfInBounds_toArray, List.set_cons_zero, List.set_cons_succ])
        refine wpAnyH_take (i := 28) (v := ?_) rfl (by kernel_rfl) (by kernel_rfl) (by kernel_rfl) (fun _ _ _ h => h) (Or.inl ⟨by rfl, ?_⟩) (by assumption) ?_
        rotate_left
        · intro w hSw; (try dsimp only at hSw); go_simp; first | done | with_reducible rfl
        (try simp only [Act.put, Array.getInternal_eq_getElem, List.getElem_toArray, List.getElem_cons_succ, List.getElem_cons_zero, List.setIfInBounds_toArray, List.set_cons_zero, List.set_cons_succ])
        refine wpAnyH_take (i := 29) (v := ?_) rfl (by kernel_rfl) (by kernel_rfl) (by kernel_rfl) (fun _ _ _ h => h) (Or.inl ⟨by rfl, ?_⟩) (by assumption) ?_
        rotate_left
        · intro w hSw; (try dsimp only at hSw); go_simp; first | done | with_reducible rfl
        (try simp only [Act.put, Array.getInternal_eq_getElem, List.getElem_toArray, List.getElem_cons_succ, List.getElem_cons_zero, List.setIfInBounds_toArray, List.set_cons_zero, List.set_cons_succ])
        refine wpAnyH_done (by kernel_rfl) ?_ _
        have y42 := HY9.out.cell (i := 42) rfl
        go_wp2_with fail
        go_loopw [40] (fun i wr => i = .int .i64 0 ∧ wr = w90) (fun _ _ => 0)
        case atStart => exact ⟨rfl, rfl⟩
        case round =>
          obtain ⟨rfl, rfl⟩ := hrel
          go_wp2_with fail
          go_ret
          refine ⟨⟨true, rfl, fun _ => ⟨?_, fun j h hj => ?_⟩⟩, HB9.out⟩
          · have := (HQ.out (by trivial)).1; rw [List.length_append] at this; simp at this; omega
          · exact (HQ.out (by trivial)).2 j h (by rw [List.getElem?_append_left (List.getElem?_eq_some_iff.1 hj).1]; exact hj)
  · rw [if_pos (by rfl)]
    refine wp_slice_new 54 39 1 _ mzero (.agg (mzero).toArray) 41 464 Tryz.underlying54 infoMsgX (by omega) (by omega) rfl (by kernel_rfl) ?_
    intro g w13 lg Bg hb13 zg
    have HG13 := Lib.hid Bg
    have HE13 := Lib.hid (HE5.out.trans (hb13.mono (Nat.le_trans HE5.out.size lg)))
    clear lg Bg hb13 zg
    refine hK.out _ _ (⟨(HX5.out.below HE13.out HX5.out.lt).cell (i := 0) rfl, (HX5.out.below HE13.out HX5.out.lt).cell (i := 1) rfl, (HX5.out.below HE13.out HX5.out.lt).cell (i := 2) rfl, seenMsg (HY5.out.below HE13.out HY5.out.lt), (HY5.out.below HE13.out HY5.out.lt).cell (i := 41) rfl, (HY5.out.below HE13.out HY5.out.lt).cell (i := 42) rfl⟩) (fun hHeld2 => ?_)
    clear hK K hHeld
    have hHeld := hHeld2
    clear hHeld2
    (try simp only [Act.put, Array.getInternal_eq_getElem, List.getElem_toArray, List.getElem_cons_succ, List.getElem_cons_zero, List.setIfInBounds_toArray, List.set_cons_zero, List.set_cons_succ])
    refine wpAnyH_ready (rs := [13]) (by kernel_rfl) (by simp) ?_
    refine AllReadyH.cons rfl (fun K hK => ?_) AllReadyH.nil
    go_simp
    obtain ⟨w14, hw14⟩ : ∃ w14, w14 = w13.alloc (Obj.cells #[] 39) := ⟨_, rfl⟩
    rw [← hw14]
    have HE14 := Lib.hid (show Below w5.heap.size w5 w14 by rw [hw14]; exact HE13.out.alloc HE13.out.size _)
    obtain ⟨vo, hvo⟩ : ∃ vo, vo = Value.slice (some ⟨w13.heap.size, 0, none⟩) 0 0 := ⟨_, rfl⟩
    have HO14 : Hid (w14.ownsRow w5.heap.size 39 41 vo 0 (flatH [])) := Lib.hid (by rw [hw14, hvo]; exact World.ownsRow_lit w13 #[] 0 HE13.out.size (by decide) rfl)
    have HVO := Lib.hid (show vo.ownBlock = some w13.heap.size by rw [hvo]; rfl)
    have HSZ := Lib.hid (show w13.heap.size < w14.heap.size by rw [hw14]; simp)
    have HG14 := Lib.hid (show Blk w14 g mzero 39 by rw [hw14]; exact HG13.out.alloc _)
    have HNB := Lib.hid (show some g ≠ vo.ownBlock by rw [HVO.out]; intro e; injection e with e; have := HG13.out.lt; omega)
    rw [← hvo]
    clear hw14 hvo
    refine hK.out _ _ (⟨(HX5.out.below HE14.out HX5.out.lt).cell (i := 0) rfl, (HX5.out.below HE14.out HX5.out.lt).cell (i := 1) rfl, (HX5.out.below HE14.out HX5.out.lt).cell (i := 2) rfl, seenMsg (HY5.out.below HE14.out HY5.out.lt), (HY5.out.below HE14.out HY5.out.lt).cell (i := 41) rfl, (HY5.out.below HE14.out HY5.out.lt).cell (i := 42) rfl⟩) (fun hHeld2 => ?_)
    clear hK K hHeld
    have hHeld := hHeld2
    clear hHeld2
    (try simp only [Act.put, Array.getInternal_eq_getElem, List.getElem_toArray, List.getElem_cons_succ, List.getElem_cons_zero, List.setIfInBounds_toArray, List.set_cons_zero, List.set_cons_succ])
    refine wpAnyH_ready (rs := [16]) (by kernel_rfl) (by simp) ?_
    refine AllReadyH.cons rfl (fun K hK => ?_) AllReadyH.nil
    rw [if_pos (by rfl)]
    refine wp_append_heads _ _ rfl w5.heap.size vo 0 (flatH []) rfl HO14.out hs2 (.slice p n c) rfl (HR5.out.below HE14.out) (HFT.out.below HE14.out) HNL.out (by have := HLEN.out; omega) HE14.out.size ?_
    intro v1 w15 own1 hb15 hcar
    have HO15 := Lib.hid own1
    have HE15 := Lib.hid (HE14.out.trans hb15)
    have HG15 := Lib.hid (hcar _ _ _ HG14.out HNB.out)
    clear own1 hb15 hcar
    refine hK.out _ _ (⟨(HX5.out.below HE15.out HX5.out.lt).cell (i := 0) rfl, (HX5.out.below HE15.out HX5.out.lt).cell (i := 1) rfl, (HX5.out.below HE15.out HX5.out.lt).cell (i := 2) rfl, seenMsg (HY5.out.below HE15.out HY5.out.lt), (HY5.out.below HE15.out HY5.out.lt).cell (i := 41) rfl, (HY5.out.below HE15.out HY5.out.lt).cell (i := 42) rfl⟩) (fun hHeld2 => ?_)
    clear hK K hHeld
    have hHeld := hHeld2
    clear hHeld2
    (try simp only [Act.put, Array.getInternal_eq_getElem, List.getElem_toArray, List.getElem_cons_succ, List.getElem_cons_zero, List.setIfInBounds_toArray, List.set_cons_zero, List.set_cons_succ])
    refine wpAnyH_ready (rs := [20]) (by kernel_rfl) (by simp) ?_
    refine AllReadyH.cons rfl (fun K hK => ?_) AllReadyH.nil
    rw [if_pos (by rfl)]
    refine wp_append_heads _ _ rfl w5.heap.size v1 _ _ rfl HO15.out [zeroHd] (.slice (some ⟨g, 0, none⟩) 1 1) rfl (zeroRow HG15.out) (zeroFit _) (.inr ⟨_, _, _, rfl⟩) (by have := HLEN.out; simp; omega) HE15.out.size ?_
    intro v2 w16 own2 hb16 hcar
    have HO16 := Lib.hid own2
    have HE16 := Lib.hid (HE15.out.trans hb16)
    clear own2 hb16 hcar
    refine hK.out _ _ (⟨(HX5.out.below HE16.out HX5.out.lt).cell (i := 0) rfl, (HX5.out.below HE16.out HX5.out.lt).cell (i := 1) rfl, (HX5.out.below HE16.out HX5.out.lt).cell (i := 2) rfl, seenMsg (HY5.out.below HE16.out HY5.out.lt), (HY5.out.below HE16.out HY5.out.lt).cell (i := 41) rfl, (HY5.out.below HE16.out HY5.out.lt).cell (i := 42) rfl⟩) (fun hHeld2 => ?_)
    clear hK K hHeld
    have hHeld := hHeld2
    clear hHeld2
    (try simp only [Act.put, Array.getInternal_eq_getElem, List.getElem_toArray, List.getElem_cons_succ, List.getElem_cons_zero, List.setIfInBounds_toArray, List.set_cons_zero, List.set_cons_succ])
    have HLN := Lib.hid (show 0 + hs2.length + [zeroHd].length = (hs2 ++ [zeroHd]).length by simp)
    refine wpAnyH_ready (rs := [21]) (by kernel_rfl) (by simp) ?_
    refine AllReadyH.cons rfl (fun K hK => ?_) AllReadyH.nil
    go_simp
    refine (rfew32_walk cv v2 cl (hs2 ++ [zeroHd]) _ (HCR.out.below (HB5.out.trans (HE16.out.mono HB5.out.size))) (HdRow.own (by have := HO16.out; simpa [flatH] using this) HLN.out) (HFA.out.below HE16.out)).mono ?_
    rintro e w90 ⟨he, hb90⟩
    obtain ⟨q, rfl, hq⟩ := he
    have HQ := Lib.hid hq
    have HX9 := Lib.hid ((HX5.out.below HE16.out HX5.out.lt).below hb90 (HX5.out.below HE16.out HX5.out.lt).lt)
    have HY9 := Lib.hid ((HY5.out.below HE16.out HY5.out.lt).below hb90 (HY5.out.below HE16.out HY5.out.lt).lt)
    have HB9 := Lib.hid ((HB5.out.trans (HE16.out.mono HB5.out.size)).trans (hb90.mono (HB5.out.trans (HE16.out.mono HB5.out.size)).size))
    clear hb90 hq
    (try go_wp2_with fail)
    refine hK.out _ _ (⟨HX9.out.cell (i := 0) rfl, HX9.out.cell (i := 1) rfl, HX9.out.cell (i := 2) rfl, seenMsg HY9.out, HY9.out.cell (i := 41) rfl, HY9.out.cell (i := 42) rfl⟩) (fun hHeld2 => ?_)
    clear hK K hHeld
    have hHeld := hHeld2
    clear hHeld2
    (try simp only [Act.put, Array.getInternal_eq_getElem, List.getElem_toArray, List.getElem_cons_succ, List.getElem_cons_zero, List.setIfInBounds_toArray, List.set_cons_zero, List.set_cons_succ])
    cases q with
    | false =>
      refine wpAnyH_take (i := 22) (v := ?_) rfl (by kernel_rfl) (by kernel_rfl) (by kernel_rfl) (fun _ _ _ h => h) (Or.inl ⟨by rfl, ?_⟩) (by assumption) ?_
      rotate_left
      · intro w hSw; (try dsimp only at hSw); go_simp; first | done | with_reducible rfl
      (try simp only [Act.put, Array.getInternal_eq_getElem, List.getElem_toArray, List.getElem_cons_succ, List.getElem_cons_zero, List.setIfInBounds_toArray, List.set_cons_zero, List.set_cons_succ])
      refine wpAnyH_take (i := 23) (v := ?_) rfl (by kernel_rfl) (by kernel_rfl) (by kernel_rfl) (fun _ _ _ h => h) (Or.inl ⟨by rfl, ?_⟩) (by assumption) ?_
      rotate_left
      · intro w hSw; (try dsimp only at hSw); go_simp; first | done | with_reducible rfl
      (try simp only [Act.put, Array.getInternal_eq_getElem, List.getElem_toArray, List.getElem_cons_succ, List.getElem_cons_zero, List.setIfInBounds_toArray, List.set_cons_zero, List.set_cons_succ])
      refine wpAnyH_take (i := 24) (v := ?_) rfl (by kernel_rfl) (by kernel_rfl) (by kernel_rfl) (fun _ _ _ h => h) (Or.inl ⟨by rfl, ?_⟩) (by assumption) ?_
      rotate_left
      · intro w hSw; (try dsimp only at hSw); go_simp; first | done | with_reducible rfl
      (try simp only [Act.put, Array.getInternal_eq_getElem, List.getElem_toArray, List.getElem_cons_succ, List.getElem_cons_zero, List.setIfInBounds_toArray, List.set_cons_zero, List.set_cons_succ])
      refine wpAnyH_take (i := 25) (v := undef) rfl (by kernel_rfl) (by kernel_rfl) (by kernel_rfl) (fun _ _ _ h => h) (Or.inr ⟨by rfl, rfl⟩) (by assumption) ?_
      (try simp only [Act.put, Array.getInternal_eq_getElem, List.getElem_toArray, List.getElem_cons_succ, List.getElem_cons_zero, List.setIfInBounds_toArray, List.set_cons_zero, List.set_cons_succ])
      refine wpAnyH_take (i := 26) (v := undef) rfl (by kernel_rfl) (by kernel_rfl) (by kernel_rfl) (fun _ _ _ h => h) (Or.inr ⟨by rfl, rfl⟩) (by assumption) ?_
      (try simp only [Act.put, Array.getInternal_eq_getElem, List.getElem_toArray, List.getElem_cons_succ, List.getElem_cons_zero, List.setIfInBounds_toArray, List.set_cons_zero, List.set_cons_succ])
      refine wpAnyH_take (i := 27) (v := undef) rfl (by kernel_rfl) (by kernel_rfl) (by kernel_rfl) (fun _ _ _ h => h) (Or.inr ⟨by rfl, rfl⟩) (by assumption) ?_
      (try simp only [Act.put, Array.getInternal_eq_getElem, List.getElem_toArray, List.getElem_cons_succ, List.getElem_cons_zero, List.setIfInBounds_toArray, List.set_cons_zero, List.set_cons_succ])
      refine wpAnyH_take (i := 28) (v := undef) rfl (by kernel_rfl) (by kernel_rfl) (by kernel_rfl) (fun _ _ _ h => h) (Or.inr ⟨by rfl, rfl⟩) (by assumption) ?_
      (try simp only [Act.put, Array.getInternal_eq_getElem, List.getElem_toArray, List.getElem_cons_succ, List.getElem_cons_zero, List.setIfInBounds_toArray, List.set_cons_zero, List.set_cons_succ])
      refine wpAnyH_take (i := 29) (v := ?_) rfl (by kernel_rfl) (by kernel_rfl) (by kernel_rfl) (fun _ _ _ h => h) (Or.inl ⟨by rfl, ?_⟩) (by assumption) ?_
      rotate_left
      · intro w hSw; (try dsimp only at hSw); go_simp; first | done | with_reducible rfl
      (try simp only [Act.put, Array.getInternal_eq_getElem, List.getElem_toArray, List.getElem_cons_succ, List.getElem_cons_zero, List.setIfInBounds_toArray, List.set_cons_zero, List.set_cons_succ])
      refine wpAnyH_done (by kernel_rfl) ?_ _
      go_wp2_with fail
      go_ret
      exact ⟨⟨false, rfl, fun h => by cases h⟩, HB9.out⟩
    | true =>
      refine wpAnyH_take (i := 22) (v := ?_) rfl (by kernel_rfl) (by kernel_rfl) (by kernel_rfl) (fun _ _ _ h => h) (Or.inl ⟨by rfl, ?_⟩) (by assumption) ?_
      rotate_left
      · intro w hSw; (try dsimp only at hSw); go_simp; first | done | with_reducible rfl
      (try simp only [Act.put, Array.getInternal_eq_getElem, List.getElem_toArray, List.getElem_cons_succ, List.getElem_cons_zero, List.setIfInBounds_toArray, List.set_cons_zero, List.set_cons_succ])
      refine wpAnyH_take (i := 23) (v := ?_) rfl (by kernel_rfl) (by kernel_rfl) (by kernel_rfl) (fun _ _ _ h => h) (Or.inl ⟨by rfl, ?_⟩) (by assumption) ?_
      rotate_left
      · intro w hSw; (try dsimp only at hSw); go_simp; first | done | with_reducible rfl
      (try simp only [Act.put, Array.getInternal_eq_getElem, List.getElem_toArray, List.getElem_cons_succ, List.getElem_cons_zero, List.setIfInBounds_toArray, List.set_cons_zero, List.set_cons_succ])
      refine wpAnyH_take (i := 24) (v := ?_) rfl (by kernel_rfl) (by kernel_rfl) (by kernel_rfl) (fun _ _ _ h => h) (Or.inl ⟨by rfl, ?_⟩) (by assumption) ?_
      rotate_left
      · intro w hSw; (try dsimp only at hSw); go_simp; first | done | with_reducible rfl
      (try simp only [Act.put, Array.getInternal_eq_getElem, List.getElem_toArray, List.getElem_cons_succ, List.getElem_cons_zero, List.setIfInBounds_toArray, List.set_cons_zero, List.set_cons_succ])
      refine wpAnyH_take (i := 25) (v := ?_) rfl (by kernel_rfl) (by kernel_rfl) (by kernel_rfl) (fun _ _ _ h => h) (Or.inl ⟨by rfl, ?_⟩) (by assumption) ?_
      rotate_left
      · intro w hSw; (try dsimp only at hSw); go_simp; first | done | with_reducible rfl
      (try simp only [Act.put, Array.getInternal_eq_getElem, List.getElem_toArray, List.getElem_cons_succ, List.getElem_cons_zero, List.setIfInBounds_toArray, List.set_cons_zero, List.set_cons_succ])
      refine wpAnyH_take (i := 26) (v := ?_) rfl (by kernel_rfl) (by kernel_rfl) (by kernel_rfl) (fun _ _ _ h => h) (Or.inl ⟨by rfl, ?_⟩) (by assumption) ?_
      rotate_left
      · intro w hSw; (try dsimp only at hSw); go_simp; first | done | with_reducible rfl
      (try simp only [Act.put, Array.getInternal_eq_getElem, List.getElem_toArray, List.getElem_cons_succ, List.getElem_cons_zero, List.setIfInBounds_toArray, List.set_cons_zero, List.set_cons_succ])
      refine wpAnyH_take (i := 27) (v := ?_) rfl (by kernel_rfl) (by kernel_rfl) (by kernel_rfl) (fun _ _ _ h => h) (Or.inl ⟨by rfl, ?_⟩) (by assumption) ?_
      rotate_left
      · intro w hSw; (try dsimp only at hSw); go_simp; first | done | with_reducible rfl
      (try simp only [Act.put, Array.getInternal_eq_getElem, List.getElem_toArray, List.getElem_cons_succ, List.getElem_cons_zero, List.setIfInBounds_toArray, List.set_cons_zero, List.set_cons_succ])
      refine wpAnyH_take (i := 28) (v := ?_) rfl (by kernel_rfl) (by kernel_rfl) (by kernel_rfl) (fun _ _ _ h => h) (Or.inl ⟨by rfl, ?_⟩) (by assumption) ?_
      rotate_left
      · intro w hSw; (try dsimp only at hSw); go_simp; first | done | with_reducible rfl
      (try simp only [Act.put, Array.getInternal_eq_getElem, List.getElem_toArray, List.getElem_cons_succ, List.getElem_cons_zero, List.setIfInBounds_toArray, List.set_cons_zero, List.set_cons_succ])
      refine wpAnyH_take (i := 29) (v := ?_) rfl (by kernel_rfl) (by kernel_rfl) (by kernel_rfl) (fun _ _ _ h => h) (Or.inl ⟨by rfl, ?_⟩) (by assumption) ?_
      rotate_left
      · intro w hSw; (try dsimp only at hSw); go_simp; first | done | with_reducible rfl
      (try simp only [Act.put, Array.getInternal_eq_getElem, List.getElem_toArray, List.getElem_cons_succ, List.getElem_cons_zero, List.setIfInBounds_toArray, List.set_cons_zero, List.set_cons_succ])
      refine wpAnyH_done (by kernel_rfl) ?_ _
      have y42 := HY9.out.cell (i := 42) rfl
      go_wp2_with fail
      go_loopw [40] (fun i wr => i = .int .i64 0 ∧ wr = w90) (fun _ _ => 0)
      case atStart => exact ⟨rfl, rfl⟩
      case round =>
        obtain ⟨rfl, rfl⟩ := hrel
        go_wp2_with fail
        go_ret
        refine ⟨⟨true, rfl, fun _ => ⟨?_, fun j h hj => ?_⟩⟩, HB9.out⟩
        · have := (HQ.out (by trivial)).1; rw [List.length_append] at this; simp at this; omega
        · exact (HQ.out (by trivial)).2 j h (by rw [List.getElem?_append_left (List.getElem?_eq_some_iff.1 hj).1]; exact hj)

end Go.Proofs.YtidekfbgjghcjaaGreat

