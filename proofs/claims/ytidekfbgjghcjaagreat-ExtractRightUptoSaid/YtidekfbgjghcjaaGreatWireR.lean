/- Walk of the documents' Right of a message (chapter 27). -/
import Derived.Test.YtidekfbgjghcjaaGreatWireS3
import Derived.Test.YtidekfbgjghcjaaGreatG18
import Derived.Deep.RegionHeld3
import Derived.Deep.MidRow
namespace Go.Proofs.YtidekfbgjghcjaaGreat
set_option linter.unusedSimpArgs false
set_option linter.unusedVariables false
open Go Go.RowKit

theorem bareD_up (m : MsgD) (h : Long m.told.up.length) : Long (bareD m).told.up.length := by
  unfold bareD bareT
  simp only
  split
  · split
    · exact ⟨by simp⟩
    · exact h
  · exact ⟨by simp [ToldD.zero]⟩
theorem bareD_left (m : MsgD) (h : Long m.told.left.length) : Long (bareD m).told.left.length := by
  unfold bareD bareT
  simp only
  split
  · split
    · exact ⟨by simp⟩
    · exact h
  · exact ⟨by simp [ToldD.zero]⟩
def awayB (m : MsgD) : Bool := !decide (m = bareD m) || (decide (m.kind ≠ 10) && decide (m.nonce.size ≠ 32))
theorem rightM_away {m : MsgD} (h : awayB m = true) : rightM m = false := by
  simp only [awayB, Bool.or_eq_true, Bool.not_eq_true', Bool.and_eq_true, decide_eq_true_eq, decide_eq_false_iff_not] at h
  unfold rightM
  rcases h with h | ⟨h1, h2⟩
  · simp [h]
  · simp [h1, h2]
theorem rightM_stays {m : MsgD} (h : awayB m = false) : rightM m = rsaysOk m := by
  simp only [awayB, Bool.or_eq_false_iff, Bool.not_eq_false', Bool.and_eq_false_iff, decide_eq_true_eq, decide_eq_false_iff_not, Decidable.not_not] at h
  unfold rightM
  rcases h with ⟨h, h1 | h1⟩ <;> simp [h1, ← h]
set_option maxRecDepth 100000 in
set_option maxHeartbeats 16000000 in
theorem right27_walk (m : MsgD) (u l : Value) (w : World) (hu : PRow w u m.told.up) (hl : PRow w l m.told.left) (hul : Long m.told.up.length) (hll : Long m.told.left.length) :
    Calls Tryz.prog 45 #[m.v u l] w fun e w' => e = .returned (.bool (rightM m)) ∧ Below w.heap.size w w' := by
  have RU : Hid (∀ w', Below w.heap.size w w' → PRow w' u m.told.up ∧ PRow w' l m.told.left) := Lib.hid (fun w' hb => ⟨hu.below hb (Nat.le_refl _), hl.below hb (Nat.le_refl _)⟩)
  have hsu := hu.shape
  have hsl := hl.shape
  obtain ⟨ua, uc, hue⟩ := hsu
  obtain ⟨la, lc, hle⟩ := hsl
  subst hue hle
  have HL := Lib.hid (show Long m.told.up.length ∧ Long m.told.left.length from ⟨hul, hll⟩)
  clear hu hl hul hll
  obtain ⟨q3, hq3⟩ : ∃ q, awayB m = q := ⟨_, rfl⟩
  have HQ3 := Lib.hid hq3; clear hq3
  go_enter Tryz.func45, Tryz.ntmps45
  go_wp2_with ((with_reducible refine wpList_box_new 39 (.tmp 0) (m.cells (.slice ua m.told.up.length uc) (.slice la m.told.left.length lc)) (some 1) ?hgd ?ho ?hd ?hx ?_); (case hgd | ho | hd | hx => rfl); (intro b w0 l0 B0 e0 z0))
  have HB0 : Below w.heap.size w w0 := e0.mono l0
  clear e0 l0 z0
  go_cut [19] from 4 to 19 (fun v wc => v = .bool q3 ∧ Blk wc b (m.cells (.slice ua m.told.up.length uc) (.slice la m.told.left.length lc)) 39 ∧ Below w.heap.size w wc)
  case first =>
    have HX := Lib.hid B0
    have HB := Lib.hid HB0
    clear B0 HB0
    by_cases hd : m = bareD m
    rotate_left
    · have HD := Lib.hid (decide_eq_false hd)
      have HAW := Lib.hid (show true = awayB m by unfold awayB; simp [decide_eq_false hd])
      clear hd
      have hS0 : (fun w' => w'.rangeAt b 0 (m.cells (.slice ua m.told.up.length uc) (.slice la m.told.left.length lc)) ∧ w'.cell? ⟨b, 0, none⟩ = some (.int .i64 m.kind) ∧ w'.cell? ⟨b, 3, none⟩ = some (.string m.nonce)) w0.drew := ⟨HX.out.drew.range, HX.out.drew.cell (i := 0) rfl, HX.out.drew.cell (i := 3) rfl⟩
      refine wp_region_held_drew (S := fun w' => w'.rangeAt b 0 (m.cells (.slice ua m.told.up.length uc) (.slice la m.told.left.length lc)) ∧ w'.cell? ⟨b, 0, none⟩ = some (.int .i64 m.kind) ∧ w'.cell? ⟨b, 3, none⟩ = some (.string m.nonce)) (by kernel_rfl) (hS0) (fun hHeld => ?_)
      clear hS0
      refine wpAnyH_take (i := 0) (v := .agg (m.cells (.slice ua m.told.up.length uc) (.slice la m.told.left.length lc)).toArray) rfl (by kernel_rfl) (by kernel_rfl) (by kernel_rfl) (fun _ _ _ h => h) (yieldsIf_load_mid (by rfl) 39 (.tmp 1) rfl b 0 rfl (m.cells (.slice ua m.told.up.length uc) (.slice la m.told.left.length lc)) _ (fun w h => h.1) Tryz.underlying39 rfl sizeMsg) (by assumption) ?_
      (try simp only [Act.put, Array.getInternal_eq_getElem, List.getElem_toArray, List.getElem_cons_succ, List.getElem_cons_zero, List.setIfInBounds_toArray, List.set_cons_zero, List.set_cons_succ])
      refine wpAnyH_take (i := 1) (v := .agg (m.cells (.slice ua m.told.up.length uc) (.slice la m.told.left.length lc)).toArray) rfl (by kernel_rfl) (by kernel_rfl) (by kernel_rfl) (fun _ _ _ h => h) (yieldsIf_load_mid (by rfl) 39 (.tmp 1) rfl b 0 rfl (m.cells (.slice ua m.told.up.length uc) (.slice la m.told.left.length lc)) _ (fun w h => h.1) Tryz.underlying39 rfl sizeMsg) (by assumption) ?_
      (try simp only [Act.put, Array.getInternal_eq_getElem, List.getElem_toArray, List.getElem_cons_succ, List.getElem_cons_zero, List.setIfInBounds_toArray, List.set_cons_zero, List.set_cons_succ])
      refine wpAnyH_ready (rs := [2]) (by kernel_rfl) (by simp) ?_
      refine AllReadyH.cons rfl (fun K hK => ?_) AllReadyH.nil
      go_simp
      refine (bare27_walk m _ _ _ (RU.out _ HB.out.drew).1 (RU.out _ HB.out.drew).2).mono ?_
      rintro e wA ⟨hbe, hbA⟩
      obtain ⟨ub, lb, rfl, hub, hlb⟩ := hbe
      have HUB := Lib.hid hub
      have HLB := Lib.hid hlb
      clear hub hlb
      have HBA := Lib.hid (HB.out.drew.trans (hbA.mono HB.out.drew.size))
      have HXA := Lib.hid (HX.out.drew.below hbA HX.out.drew.lt)
      clear hbA
      (try go_wp2_with fail)
      refine hK.out _ _ (⟨HXA.out.range, HXA.out.cell (i := 0) rfl, HXA.out.cell (i := 3) rfl⟩) (fun hHeld2 => ?_)
      clear hK K hHeld
      have hHeld := hHeld2
      clear hHeld2
      (try simp only [Act.put, Array.getInternal_eq_getElem, List.getElem_toArray, List.getElem_cons_succ, List.getElem_cons_zero, List.setIfInBounds_toArray, List.set_cons_zero, List.set_cons_succ])
      refine wpAnyH_ready (rs := [3]) (by kernel_rfl) (by simp) ?_
      refine AllReadyH.cons rfl (fun K hK => ?_) AllReadyH.nil
      go_simp
      refine (same27_walk m (bareD m) _ _ ub lb _ (RU.out _ HBA.out).1 (RU.out _ HBA.out).2 HUB.out HLB.out HL.out.1 HL.out.2 (bareD_up m HL.out.1) (bareD_left m HL.out.2)).mono ?_
      rintro e wB ⟨he, hbB⟩
      rw [HD.out] at he
      subst he
      have HBB := Lib.hid (HBA.out.trans (hbB.mono HBA.out.size))
      have HXB := Lib.hid (HXA.out.below hbB HXA.out.lt)
      clear hbB
      (try go_wp2_with fail)
      refine hK.out _ _ (⟨HXB.out.range, HXB.out.cell (i := 0) rfl, HXB.out.cell (i := 3) rfl⟩) (fun hHeld2 => ?_)
      clear hK K hHeld
      have hHeld := hHeld2
      clear hHeld2
      (try simp only [Act.put, Array.getInternal_eq_getElem, List.getElem_toArray, List.getElem_cons_succ, List.getElem_cons_zero, List.setIfInBounds_toArray, List.set_cons_zero, List.set_cons_succ])
      refine wpAnyH_take (i := 4) (v := ?_) rfl (by kernel_rfl) (by kernel_rfl) (by kernel_rfl) (fun _ _ _ h => h) (Or.inl ⟨by rfl, ?_⟩) (by assumption) ?_
      rotate_left
      · intro w hSw; (try dsimp only at hSw); go_simp; first | done | with_reducible rfl
      (try simp only [Act.put, Array.getInternal_eq_getElem, List.getElem_toArray, List.getElem_cons_succ, List.getElem_cons_zero, List.setIfInBounds_toArray, List.set_cons_zero, List.set_cons_succ])
      refine wpAnyH_take (i := 5) (v := ?_) rfl (by kernel_rfl) (by kernel_rfl) (by kernel_rfl) (fun _ _ _ h => h) (Or.inl ⟨by rfl, ?_⟩) (by assumption) ?_
      rotate_left
      · intro w hSw; (try dsimp only at hSw); go_simp; first | done | with_reducible rfl
      (try simp only [Act.put, Array.getInternal_eq_getElem, List.getElem_toArray, List.getElem_cons_succ, List.getElem_cons_zero, List.setIfInBounds_toArray, List.set_cons_zero, List.set_cons_succ])
      refine wpAnyH_take (i := 6) (v := undef) rfl (by kernel_rfl) (by kernel_rfl) (by kernel_rfl) (fun _ _ _ h => h) (Or.inr ⟨by rfl, rfl⟩) (by assumption) ?_
      (try simp only [Act.put, Array.getInternal_eq_getElem, List.getElem_toArray, List.getElem_cons_succ, List.getElem_cons_zero, List.setIfInBounds_toArray, List.set_cons_zero, List.set_cons_succ])
      refine wpAnyH_take (i := 7) (v := undef) rfl (by kernel_rfl) (by kernel_rfl) (by kernel_rfl) (fun _ _ _ h => h) (Or.inr ⟨by rfl, rfl⟩) (by assumption) ?_
      (try simp only [Act.put, Array.getInternal_eq_getElem, List.getElem_toArray, List.getElem_cons_succ, List.getElem_cons_zero, List.setIfInBounds_toArray, List.set_cons_zero, List.set_cons_succ])
      refine wpAnyH_take (i := 8) (v := undef) rfl (by kernel_rfl) (by kernel_rfl) (by kernel_rfl) (fun _ _ _ h => h) (Or.inr ⟨by rfl, rfl⟩) (by assumption) ?_
      (try simp only [Act.put, Array.getInternal_eq_getElem, List.getElem_toArray, List.getElem_cons_succ, List.getElem_cons_zero, List.setIfInBounds_toArray, List.set_cons_zero, List.set_cons_succ])
      refine wpAnyH_take (i := 9) (v := undef) rfl (by kernel_rfl) (by kernel_rfl) (by kernel_rfl) (fun _ _ _ h => h) (Or.inr ⟨by rfl, rfl⟩) (by assumption) ?_
      (try simp only [Act.put, Array.getInternal_eq_getElem, List.getElem_toArray, List.getElem_cons_succ, List.getElem_cons_zero, List.setIfInBounds_toArray, List.set_cons_zero, List.set_cons_succ])
      refine wpAnyH_take (i := 10) (v := undef) rfl (by kernel_rfl) (by kernel_rfl) (by kernel_rfl) (fun _ _ _ h => h) (Or.inr ⟨by rfl, rfl⟩) (by assumption) ?_
      (try simp only [Act.put, Array.getInternal_eq_getElem, List.getElem_toArray, List.getElem_cons_succ, List.getElem_cons_zero, List.setIfInBounds_toArray, List.set_cons_zero, List.set_cons_succ])
      refine wpAnyH_take (i := 11) (v := undef) rfl (by kernel_rfl) (by kernel_rfl) (by kernel_rfl) (fun _ _ _ h => h) (Or.inr ⟨by rfl, rfl⟩) (by assumption) ?_
      (try simp only [Act.put, Array.getInternal_eq_getElem, List.getElem_toArray, List.getElem_cons_succ, List.getElem_cons_zero, List.setIfInBounds_toArray, List.set_cons_zero, List.set_cons_succ])
      refine wpAnyH_take (i := 12) (v := undef) rfl (by kernel_rfl) (by kernel_rfl) (by kernel_rfl) (fun _ _ _ h => h) (Or.inr ⟨by rfl, rfl⟩) (by assumption) ?_
      (try simp only [Act.put, Array.getInternal_eq_getElem, List.getElem_toArray, List.getElem_cons_succ, List.getElem_cons_zero, List.setIfInBounds_toArray, List.set_cons_zero, List.set_cons_succ])
      refine wpAnyH_take (i := 13) (v := undef) rfl (by kernel_rfl) (by kernel_rfl) (by kernel_rfl) (fun _ _ _ h => h) (Or.inr ⟨by rfl, rfl⟩) (by assumption) ?_
      (try simp only [Act.put, Array.getInternal_eq_getElem, List.getElem_toArray, List.getElem_cons_succ, List.getElem_cons_zero, List.setIfInBounds_toArray, List.set_cons_zero, List.set_cons_succ])
      refine wpAnyH_take (i := 14) (v := undef) rfl (by kernel_rfl) (by kernel_rfl) (by kernel_rfl) (fun _ _ _ h => h) (Or.inr ⟨by rfl, rfl⟩) (by assumption) ?_
      (try simp only [Act.put, Array.getInternal_eq_getElem, List.getElem_toArray, List.getElem_cons_succ, List.getElem_cons_zero, List.setIfInBounds_toArray, List.set_cons_zero, List.set_cons_succ])
      refine wpAnyH_take (i := 15) (v := ?_) rfl (by kernel_rfl) (by kernel_rfl) (by kernel_rfl) (fun _ _ _ h => h) (Or.inl ⟨by rfl, ?_⟩) (by assumption) ?_
      rotate_left
      · intro w hSw; (try dsimp only at hSw); go_simp; first | done | with_reducible rfl
      (try simp only [Act.put, Array.getInternal_eq_getElem, List.getElem_toArray, List.getElem_cons_succ, List.getElem_cons_zero, List.setIfInBounds_toArray, List.set_cons_zero, List.set_cons_succ])
      refine wpAnyH_done (by kernel_rfl) ?_ _
      go_wp2_with fail
      go_meet
      case rel => exact ⟨congrArg Value.bool (by rw [← HQ3.out]; exact HAW.out), HXB.out, HBB.out⟩
    have HD := Lib.hid (decide_eq_true hd)
    by_cases k10 : m.kind = 10
    · have p1 : (m.kind != 10) = false := by simp [k10]
      have HAW := Lib.hid (show false = awayB m by unfold awayB; simp [decide_eq_true hd, k10])
      clear hd k10
      have hS0 : (fun w' => w'.rangeAt b 0 (m.cells (.slice ua m.told.up.length uc) (.slice la m.told.left.length lc)) ∧ w'.cell? ⟨b, 0, none⟩ = some (.int .i64 m.kind) ∧ w'.cell? ⟨b, 3, none⟩ = some (.string m.nonce)) w0.drew := ⟨HX.out.drew.range, HX.out.drew.cell (i := 0) rfl, HX.out.drew.cell (i := 3) rfl⟩
      refine wp_region_held_drew (S := fun w' => w'.rangeAt b 0 (m.cells (.slice ua m.told.up.length uc) (.slice la m.told.left.length lc)) ∧ w'.cell? ⟨b, 0, none⟩ = some (.int .i64 m.kind) ∧ w'.cell? ⟨b, 3, none⟩ = some (.string m.nonce)) (by kernel_rfl) (hS0) (fun hHeld => ?_)
      clear hS0
      refine wpAnyH_take (i := 0) (v := .agg (m.cells (.slice ua m.told.up.length uc) (.slice la m.told.left.length lc)).toArray) rfl (by kernel_rfl) (by kernel_rfl) (by kernel_rfl) (fun _ _ _ h => h) (yieldsIf_load_mid (by rfl) 39 (.tmp 1) rfl b 0 rfl (m.cells (.slice ua m.told.up.length uc) (.slice la m.told.left.length lc)) _ (fun w h => h.1) Tryz.underlying39 rfl sizeMsg) (by assumption) ?_
      (try simp only [Act.put, Array.getInternal_eq_getElem, List.getElem_toArray, List.getElem_cons_succ, List.getElem_cons_zero, List.setIfInBounds_toArray, List.set_cons_zero, List.set_cons_succ])
      refine wpAnyH_take (i := 1) (v := .agg (m.cells (.slice ua m.told.up.length uc) (.slice la m.told.left.length lc)).toArray) rfl (by kernel_rfl) (by kernel_rfl) (by kernel_rfl) (fun _ _ _ h => h) (yieldsIf_load_mid (by rfl) 39 (.tmp 1) rfl b 0 rfl (m.cells (.slice ua m.told.up.length uc) (.slice la m.told.left.length lc)) _ (fun w h => h.1) Tryz.underlying39 rfl sizeMsg) (by assumption) ?_
      (try simp only [Act.put, Array.getInternal_eq_getElem, List.getElem_toArray, List.getElem_cons_succ, List.getElem_cons_zero, List.setIfInBounds_toArray, List.set_cons_zero, List.set_cons_succ])
      refine wpAnyH_ready (rs := [2]) (by kernel_rfl) (by simp) ?_
      refine AllReadyH.cons rfl (fun K hK => ?_) AllReadyH.nil
      go_simp
      refine (bare27_walk m _ _ _ (RU.out _ HB.out.drew).1 (RU.out _ HB.out.drew).2).mono ?_
      rintro e wA ⟨hbe, hbA⟩
      obtain ⟨ub, lb, rfl, hub, hlb⟩ := hbe
      have HUB := Lib.hid hub
      have HLB := Lib.hid hlb
      clear hub hlb
      have HBA := Lib.hid (HB.out.drew.trans (hbA.mono HB.out.drew.size))
      have HXA := Lib.hid (HX.out.drew.below hbA HX.out.drew.lt)
      clear hbA
      (try go_wp2_with fail)
      refine hK.out _ _ (⟨HXA.out.range, HXA.out.cell (i := 0) rfl, HXA.out.cell (i := 3) rfl⟩) (fun hHeld2 => ?_)
      clear hK K hHeld
      have hHeld := hHeld2
      clear hHeld2
      (try simp only [Act.put, Array.getInternal_eq_getElem, List.getElem_toArray, List.getElem_cons_succ, List.getElem_cons_zero, List.setIfInBounds_toArray, List.set_cons_zero, List.set_cons_succ])
      refine wpAnyH_ready (rs := [3]) (by kernel_rfl) (by simp) ?_
      refine AllReadyH.cons rfl (fun K hK => ?_) AllReadyH.nil
      go_simp
      refine (same27_walk m (bareD m) _ _ ub lb _ (RU.out _ HBA.out).1 (RU.out _ HBA.out).2 HUB.out HLB.out HL.out.1 HL.out.2 (bareD_up m HL.out.1) (bareD_left m HL.out.2)).mono ?_
      rintro e wB ⟨he, hbB⟩
      rw [HD.out] at he
      subst he
      have HBB := Lib.hid (HBA.out.trans (hbB.mono HBA.out.size))
      have HXB := Lib.hid (HXA.out.below hbB HXA.out.lt)
      clear hbB
      (try go_wp2_with fail)
      refine hK.out _ _ (⟨HXB.out.range, HXB.out.cell (i := 0) rfl, HXB.out.cell (i := 3) rfl⟩) (fun hHeld2 => ?_)
      clear hK K hHeld
      have hHeld := hHeld2
      clear hHeld2
      (try simp only [Act.put, Array.getInternal_eq_getElem, List.getElem_toArray, List.getElem_cons_succ, List.getElem_cons_zero, List.setIfInBounds_toArray, List.set_cons_zero, List.set_cons_succ])
      refine wpAnyH_take (i := 4) (v := ?_) rfl (by kernel_rfl) (by kernel_rfl) (by kernel_rfl) (fun _ _ _ h => h) (Or.inl ⟨by rfl, ?_⟩) (by assumption) ?_
      rotate_left
      · intro w hSw; (try dsimp only at hSw); go_simp; first | done | with_reducible rfl
      (try simp only [Act.put, Array.getInternal_eq_getElem, List.getElem_toArray, List.getElem_cons_succ, List.getElem_cons_zero, List.setIfInBounds_toArray, List.set_cons_zero, List.set_cons_succ])
      refine wpAnyH_take (i := 5) (v := ?_) rfl (by kernel_rfl) (by kernel_rfl) (by kernel_rfl) (fun _ _ _ h => h) (Or.inl ⟨by rfl, ?_⟩) (by assumption) ?_
      rotate_left
      · intro w hSw; (try dsimp only at hSw); go_simp; first | done | with_reducible rfl
      (try simp only [Act.put, Array.getInternal_eq_getElem, List.getElem_toArray, List.getElem_cons_succ, List.getElem_cons_zero, List.setIfInBounds_toArray, List.set_cons_zero, List.set_cons_succ])
      refine wpAnyH_take (i := 6) (v := ?_) rfl (by kernel_rfl) (by kernel_rfl) (by kernel_rfl) (fun _ _ _ h => h) (Or.inl ⟨by rfl, ?_⟩) (by assumption) ?_
      rotate_left
      · intro w hSw; (try dsimp only at hSw); go_simp; first | done | with_reducible rfl
      (try simp only [Act.put, Array.getInternal_eq_getElem, List.getElem_toArray, List.getElem_cons_succ, List.getElem_cons_zero, List.setIfInBounds_toArray, List.set_cons_zero, List.set_cons_succ])
      refine wpAnyH_take (i := 7) (v := ?_) rfl (by kernel_rfl) (by kernel_rfl) (by kernel_rfl) (fun _ _ _ h => h) (Or.inl ⟨by rfl, ?_⟩) (by assumption) ?_
      rotate_left
      · intro w hSw; (try dsimp only at hSw); go_simp; first | done | with_reducible rfl
      (try simp only [Act.put, Array.getInternal_eq_getElem, List.getElem_toArray, List.getElem_cons_succ, List.getElem_cons_zero, List.setIfInBounds_toArray, List.set_cons_zero, List.set_cons_succ])
      refine wpAnyH_take (i := 8) (v := ?_) rfl (by kernel_rfl) (by kernel_rfl) (by kernel_rfl) (fun _ _ _ h => h) (Or.inl ⟨by rfl, ?_⟩) (by assumption) ?_
      rotate_left
      · intro w hSw; (try dsimp only at hSw); go_simp; first | done | with_reducible rfl
      (try simp only [Act.put, Array.getInternal_eq_getElem, List.getElem_toArray, List.getElem_cons_succ, List.getElem_cons_zero, List.setIfInBounds_toArray, List.set_cons_zero, List.set_cons_succ])
      refine wpAnyH_take (i := 9) (v := ?_) rfl (by kernel_rfl) (by kernel_rfl) (by kernel_rfl) (fun _ _ _ h => h) (Or.inl ⟨by rfl, ?_⟩) (by assumption) ?_
      rotate_left
      · intro w hSw; (try dsimp only at hSw); go_simp; first | done | with_reducible rfl
      (try simp only [Act.put, Array.getInternal_eq_getElem, List.getElem_toArray, List.getElem_cons_succ, List.getElem_cons_zero, List.setIfInBounds_toArray, List.set_cons_zero, List.set_cons_succ])
      refine wpAnyH_take (i := 10) (v := undef) rfl (by kernel_rfl) (by kernel_rfl) (by kernel_rfl) (fun _ _ _ h => h) (Or.inr ⟨by rfl, rfl⟩) (by assumption) ?_
      (try simp only [Act.put, Array.getInternal_eq_getElem, List.getElem_toArray, List.getElem_cons_succ, List.getElem_cons_zero, List.setIfInBounds_toArray, List.set_cons_zero, List.set_cons_succ])
      refine wpAnyH_take (i := 11) (v := undef) rfl (by kernel_rfl) (by kernel_rfl) (by kernel_rfl) (fun _ _ _ h => h) (Or.inr ⟨by rfl, rfl⟩) (by assumption) ?_
      (try simp only [Act.put, Array.getInternal_eq_getElem, List.getElem_toArray, List.getElem_cons_succ, List.getElem_cons_zero, List.setIfInBounds_toArray, List.set_cons_zero, List.set_cons_succ])
      refine wpAnyH_take (i := 12) (v := undef) rfl (by kernel_rfl) (by kernel_rfl) (by kernel_rfl) (fun _ _ _ h => h) (Or.inr ⟨by rfl, rfl⟩) (by assumption) ?_
      (try simp only [Act.put, Array.getInternal_eq_getElem, List.getElem_toArray, List.getElem_cons_succ, List.getElem_cons_zero, List.setIfInBounds_toArray, List.set_cons_zero, List.set_cons_succ])
      refine wpAnyH_take (i := 13) (v := undef) rfl (by kernel_rfl) (by kernel_rfl) (by kernel_rfl) (fun _ _ _ h => h) (Or.inr ⟨by rfl, rfl⟩) (by assumption) ?_
      (try simp only [Act.put, Array.getInternal_eq_getElem, List.getElem_toArray, List.getElem_cons_succ, List.getElem_cons_zero, List.setIfInBounds_toArray, List.set_cons_zero, List.set_cons_succ])
      refine wpAnyH_take (i := 14) (v := ?_) rfl (by kernel_rfl) (by kernel_rfl) (by kernel_rfl) (fun _ _ _ h => h) (Or.inl ⟨by rfl, ?_⟩) (by assumption) ?_
      rotate_left
      · intro w hSw; (try dsimp only at hSw); go_simp; first | done | with_reducible rfl
      (try simp only [Act.put, Array.getInternal_eq_getElem, List.getElem_toArray, List.getElem_cons_succ, List.getElem_cons_zero, List.setIfInBounds_toArray, List.set_cons_zero, List.set_cons_succ])
      refine wpAnyH_take (i := 15) (v := ?_) rfl (by kernel_rfl) (by kernel_rfl) (by kernel_rfl) (fun _ _ _ h => h) (Or.inl ⟨by rfl, ?_⟩) (by assumption) ?_
      rotate_left
      · intro w hSw; (try dsimp only at hSw); go_simp; first | done | with_reducible rfl
      (try simp only [Act.put, Array.getInternal_eq_getElem, List.getElem_toArray, List.getElem_cons_succ, List.getElem_cons_zero, List.setIfInBounds_toArray, List.set_cons_zero, List.set_cons_succ])
      refine wpAnyH_done (by kernel_rfl) ?_ _
      go_wp2_with fail
      go_meet
      case rel => exact ⟨congrArg Value.bool (by rw [← HQ3.out]; exact HAW.out), HXB.out, HBB.out⟩
    have p1 : (m.kind != 10) = true := by simp [k10]
    by_cases hn : (m.nonce.size : Int) = 32
    · have p3 : ((m.nonce.size : Int) != 32) = false := by simp [hn]
      have HAW := Lib.hid (show false = awayB m by unfold awayB; have : m.nonce.size = 32 := by omega
                                                   simp [decide_eq_true hd, this])
      clear hd k10 hn
      have hS0 : (fun w' => w'.rangeAt b 0 (m.cells (.slice ua m.told.up.length uc) (.slice la m.told.left.length lc)) ∧ w'.cell? ⟨b, 0, none⟩ = some (.int .i64 m.kind) ∧ w'.cell? ⟨b, 3, none⟩ = some (.string m.nonce)) w0.drew := ⟨HX.out.drew.range, HX.out.drew.cell (i := 0) rfl, HX.out.drew.cell (i := 3) rfl⟩
      refine wp_region_held_drew (S := fun w' => w'.rangeAt b 0 (m.cells (.slice ua m.told.up.length uc) (.slice la m.told.left.length lc)) ∧ w'.cell? ⟨b, 0, none⟩ = some (.int .i64 m.kind) ∧ w'.cell? ⟨b, 3, none⟩ = some (.string m.nonce)) (by kernel_rfl) (hS0) (fun hHeld => ?_)
      clear hS0
      refine wpAnyH_take (i := 0) (v := .agg (m.cells (.slice ua m.told.up.length uc) (.slice la m.told.left.length lc)).toArray) rfl (by kernel_rfl) (by kernel_rfl) (by kernel_rfl) (fun _ _ _ h => h) (yieldsIf_load_mid (by rfl) 39 (.tmp 1) rfl b 0 rfl (m.cells (.slice ua m.told.up.length uc) (.slice la m.told.left.length lc)) _ (fun w h => h.1) Tryz.underlying39 rfl sizeMsg) (by assumption) ?_
      (try simp only [Act.put, Array.getInternal_eq_getElem, List.getElem_toArray, List.getElem_cons_succ, List.getElem_cons_zero, List.setIfInBounds_toArray, List.set_cons_zero, List.set_cons_succ])
      refine wpAnyH_take (i := 1) (v := .agg (m.cells (.slice ua m.told.up.length uc) (.slice la m.told.left.length lc)).toArray) rfl (by kernel_rfl) (by kernel_rfl) (by kernel_rfl) (fun _ _ _ h => h) (yieldsIf_load_mid (by rfl) 39 (.tmp 1) rfl b 0 rfl (m.cells (.slice ua m.told.up.length uc) (.slice la m.told.left.length lc)) _ (fun w h => h.1) Tryz.underlying39 rfl sizeMsg) (by assumption) ?_
      (try simp only [Act.put, Array.getInternal_eq_getElem, List.getElem_toArray, List.getElem_cons_succ, List.getElem_cons_zero, List.setIfInBounds_toArray, List.set_cons_zero, List.set_cons_succ])
      refine wpAnyH_ready (rs := [2]) (by kernel_rfl) (by simp) ?_
      refine AllReadyH.cons rfl (fun K hK => ?_) AllReadyH.nil
      go_simp
      refine (bare27_walk m _ _ _ (RU.out _ HB.out.drew).1 (RU.out _ HB.out.drew).2).mono ?_
      rintro e wA ⟨hbe, hbA⟩
      obtain ⟨ub, lb, rfl, hub, hlb⟩ := hbe
      have HUB := Lib.hid hub
      have HLB := Lib.hid hlb
      clear hub hlb
      have HBA := Lib.hid (HB.out.drew.trans (hbA.mono HB.out.drew.size))
      have HXA := Lib.hid (HX.out.drew.below hbA HX.out.drew.lt)
      clear hbA
      (try go_wp2_with fail)
      refine hK.out _ _ (⟨HXA.out.range, HXA.out.cell (i := 0) rfl, HXA.out.cell (i := 3) rfl⟩) (fun hHeld2 => ?_)
      clear hK K hHeld
      have hHeld := hHeld2
      clear hHeld2
      (try simp only [Act.put, Array.getInternal_eq_getElem, List.getElem_toArray, List.getElem_cons_succ, List.getElem_cons_zero, List.setIfInBounds_toArray, List.set_cons_zero, List.set_cons_succ])
      refine wpAnyH_ready (rs := [3]) (by kernel_rfl) (by simp) ?_
      refine AllReadyH.cons rfl (fun K hK => ?_) AllReadyH.nil
      go_simp
      refine (same27_walk m (bareD m) _ _ ub lb _ (RU.out _ HBA.out).1 (RU.out _ HBA.out).2 HUB.out HLB.out HL.out.1 HL.out.2 (bareD_up m HL.out.1) (bareD_left m HL.out.2)).mono ?_
      rintro e wB ⟨he, hbB⟩
      rw [HD.out] at he
      subst he
      have HBB := Lib.hid (HBA.out.trans (hbB.mono HBA.out.size))
      have HXB := Lib.hid (HXA.out.below hbB HXA.out.lt)
      clear hbB
      (try go_wp2_with fail)
      refine hK.out _ _ (⟨HXB.out.range, HXB.out.cell (i := 0) rfl, HXB.out.cell (i := 3) rfl⟩) (fun hHeld2 => ?_)
      clear hK K hHeld
      have hHeld := hHeld2
      clear hHeld2
      (try simp only [Act.put, Array.getInternal_eq_getElem, List.getElem_toArray, List.getElem_cons_succ, List.getElem_cons_zero, List.setIfInBounds_toArray, List.set_cons_zero, List.set_cons_succ])
      refine wpAnyH_take (i := 4) (v := ?_) rfl (by kernel_rfl) (by kernel_rfl) (by kernel_rfl) (fun _ _ _ h => h) (Or.inl ⟨by rfl, ?_⟩) (by assumption) ?_
      rotate_left
      · intro w hSw; (try dsimp only at hSw); go_simp; first | done | with_reducible rfl
      (try simp only [Act.put, Array.getInternal_eq_getElem, List.getElem_toArray, List.getElem_cons_succ, List.getElem_cons_zero, List.setIfInBounds_toArray, List.set_cons_zero, List.set_cons_succ])
      refine wpAnyH_take (i := 5) (v := ?_) rfl (by kernel_rfl) (by kernel_rfl) (by kernel_rfl) (fun _ _ _ h => h) (Or.inl ⟨by rfl, ?_⟩) (by assumption) ?_
      rotate_left
      · intro w hSw; (try dsimp only at hSw); go_simp; first | done | with_reducible rfl
      (try simp only [Act.put, Array.getInternal_eq_getElem, List.getElem_toArray, List.getElem_cons_succ, List.getElem_cons_zero, List.setIfInBounds_toArray, List.set_cons_zero, List.set_cons_succ])
      refine wpAnyH_take (i := 6) (v := ?_) rfl (by kernel_rfl) (by kernel_rfl) (by kernel_rfl) (fun _ _ _ h => h) (Or.inl ⟨by rfl, ?_⟩) (by assumption) ?_
      rotate_left
      · intro w hSw; (try dsimp only at hSw); go_simp; first | done | with_reducible rfl
      (try simp only [Act.put, Array.getInternal_eq_getElem, List.getElem_toArray, List.getElem_cons_succ, List.getElem_cons_zero, List.setIfInBounds_toArray, List.set_cons_zero, List.set_cons_succ])
      refine wpAnyH_take (i := 7) (v := ?_) rfl (by kernel_rfl) (by kernel_rfl) (by kernel_rfl) (fun _ _ _ h => h) (Or.inl ⟨by rfl, ?_⟩) (by assumption) ?_
      rotate_left
      · intro w hSw; (try dsimp only at hSw); go_simp; first | done | with_reducible rfl
      (try simp only [Act.put, Array.getInternal_eq_getElem, List.getElem_toArray, List.getElem_cons_succ, List.getElem_cons_zero, List.setIfInBounds_toArray, List.set_cons_zero, List.set_cons_succ])
      refine wpAnyH_take (i := 8) (v := ?_) rfl (by kernel_rfl) (by kernel_rfl) (by kernel_rfl) (fun _ _ _ h => h) (Or.inl ⟨by rfl, ?_⟩) (by assumption) ?_
      rotate_left
      · intro w hSw; (try dsimp only at hSw); go_simp; first | done | with_reducible rfl
      (try simp only [Act.put, Array.getInternal_eq_getElem, List.getElem_toArray, List.getElem_cons_succ, List.getElem_cons_zero, List.setIfInBounds_toArray, List.set_cons_zero, List.set_cons_succ])
      refine wpAnyH_take (i := 9) (v := ?_) rfl (by kernel_rfl) (by kernel_rfl) (by kernel_rfl) (fun _ _ _ h => h) (Or.inl ⟨by rfl, ?_⟩) (by assumption) ?_
      rotate_left
      · intro w hSw; (try dsimp only at hSw); go_simp; first | done | with_reducible rfl
      (try simp only [Act.put, Array.getInternal_eq_getElem, List.getElem_toArray, List.getElem_cons_succ, List.getElem_cons_zero, List.setIfInBounds_toArray, List.set_cons_zero, List.set_cons_succ])
      refine wpAnyH_take (i := 10) (v := ?_) rfl (by kernel_rfl) (by kernel_rfl) (by kernel_rfl) (fun _ _ _ h => h) (Or.inl ⟨by rfl, ?_⟩) (by assumption) ?_
      rotate_left
      · intro w hSw; (try dsimp only at hSw); go_simp; first | done | with_reducible rfl
      (try simp only [Act.put, Array.getInternal_eq_getElem, List.getElem_toArray, List.getElem_cons_succ, List.getElem_cons_zero, List.setIfInBounds_toArray, List.set_cons_zero, List.set_cons_succ])
      refine wpAnyH_take (i := 11) (v := ?_) rfl (by kernel_rfl) (by kernel_rfl) (by kernel_rfl) (fun _ _ _ h => h) (Or.inl ⟨by rfl, ?_⟩) (by assumption) ?_
      rotate_left
      · intro w hSw; (try dsimp only at hSw); go_simp; first | done | with_reducible rfl
      (try simp only [Act.put, Array.getInternal_eq_getElem, List.getElem_toArray, List.getElem_cons_succ, List.getElem_cons_zero, List.setIfInBounds_toArray, List.set_cons_zero, List.set_cons_succ])
      refine wpAnyH_take (i := 12) (v := ?_) rfl (by kernel_rfl) (by kernel_rfl) (by kernel_rfl) (fun _ _ _ h => h) (Or.inl ⟨by rfl, ?_⟩) (by assumption) ?_
      rotate_left
      · intro w hSw; (try dsimp only at hSw); go_simp; first | done | with_reducible rfl
      (try simp only [Act.put, Array.getInternal_eq_getElem, List.getElem_toArray, List.getElem_cons_succ, List.getElem_cons_zero, List.setIfInBounds_toArray, List.set_cons_zero, List.set_cons_succ])
      refine wpAnyH_take (i := 13) (v := ?_) rfl (by kernel_rfl) (by kernel_rfl) (by kernel_rfl) (fun _ _ _ h => h) (Or.inl ⟨by rfl, ?_⟩) (by assumption) ?_
      rotate_left
      · intro w hSw; (try dsimp only at hSw); go_simp; first | done | with_reducible rfl
      (try simp only [Act.put, Array.getInternal_eq_getElem, List.getElem_toArray, List.getElem_cons_succ, List.getElem_cons_zero, List.setIfInBounds_toArray, List.set_cons_zero, List.set_cons_succ])
      refine wpAnyH_take (i := 14) (v := ?_) rfl (by kernel_rfl) (by kernel_rfl) (by kernel_rfl) (fun _ _ _ h => h) (Or.inl ⟨by rfl, ?_⟩) (by assumption) ?_
      rotate_left
      · intro w hSw; (try dsimp only at hSw); go_simp; first | done | with_reducible rfl
      (try simp only [Act.put, Array.getInternal_eq_getElem, List.getElem_toArray, List.getElem_cons_succ, List.getElem_cons_zero, List.setIfInBounds_toArray, List.set_cons_zero, List.set_cons_succ])
      refine wpAnyH_take (i := 15) (v := ?_) rfl (by kernel_rfl) (by kernel_rfl) (by kernel_rfl) (fun _ _ _ h => h) (Or.inl ⟨by rfl, ?_⟩) (by assumption) ?_
      rotate_left
      · intro w hSw; (try dsimp only at hSw); go_simp; first | done | with_reducible rfl
      (try simp only [Act.put, Array.getInternal_eq_getElem, List.getElem_toArray, List.getElem_cons_succ, List.getElem_cons_zero, List.setIfInBounds_toArray, List.set_cons_zero, List.set_cons_succ])
      refine wpAnyH_done (by kernel_rfl) ?_ _
      go_wp2_with fail
      go_meet
      case rel => exact ⟨congrArg Value.bool (by rw [← HQ3.out]; exact HAW.out), HXB.out, HBB.out⟩
    · have p3 : ((m.nonce.size : Int) != 32) = true := by simp [hn]
      have HAW := Lib.hid (show true = awayB m by unfold awayB; have : ¬ m.nonce.size = 32 := by omega
                                                  simp [decide_eq_true hd, this, k10])
      clear hd k10 hn
      have hS0 : (fun w' => w'.rangeAt b 0 (m.cells (.slice ua m.told.up.length uc) (.slice la m.told.left.length lc)) ∧ w'.cell? ⟨b, 0, none⟩ = some (.int .i64 m.kind) ∧ w'.cell? ⟨b, 3, none⟩ = some (.string m.nonce)) w0.drew := ⟨HX.out.drew.range, HX.out.drew.cell (i := 0) rfl, HX.out.drew.cell (i := 3) rfl⟩
      refine wp_region_held_drew (S := fun w' => w'.rangeAt b 0 (m.cells (.slice ua m.told.up.length uc) (.slice la m.told.left.length lc)) ∧ w'.cell? ⟨b, 0, none⟩ = some (.int .i64 m.kind) ∧ w'.cell? ⟨b, 3, none⟩ = some (.string m.nonce)) (by kernel_rfl) (hS0) (fun hHeld => ?_)
      clear hS0
      refine wpAnyH_take (i := 0) (v := .agg (m.cells (.slice ua m.told.up.length uc) (.slice la m.told.left.length lc)).toArray) rfl (by kernel_rfl) (by kernel_rfl) (by kernel_rfl) (fun _ _ _ h => h) (yieldsIf_load_mid (by rfl) 39 (.tmp 1) rfl b 0 rfl (m.cells (.slice ua m.told.up.length uc) (.slice la m.told.left.length lc)) _ (fun w h => h.1) Tryz.underlying39 rfl sizeMsg) (by assumption) ?_
      (try simp only [Act.put, Array.getInternal_eq_getElem, List.getElem_toArray, List.getElem_cons_succ, List.getElem_cons_zero, List.setIfInBounds_toArray, List.set_cons_zero, List.set_cons_succ])
      refine wpAnyH_take (i := 1) (v := .agg (m.cells (.slice ua m.told.up.length uc) (.slice la m.told.left.length lc)).toArray) rfl (by kernel_rfl) (by kernel_rfl) (by kernel_rfl) (fun _ _ _ h => h) (yieldsIf_load_mid (by rfl) 39 (.tmp 1) rfl b 0 rfl (m.cells (.slice ua m.told.up.length uc) (.slice la m.told.left.length lc)) _ (fun w h => h.1) Tryz.underlying39 rfl sizeMsg) (by assumption) ?_
      (try simp only [Act.put, Array.getInternal_eq_getElem, List.getElem_toArray, List.getElem_cons_succ, List.getElem_cons_zero, List.setIfInBounds_toArray, List.set_cons_zero, List.set_cons_succ])
      refine wpAnyH_ready (rs := [2]) (by kernel_rfl) (by simp) ?_
      refine AllReadyH.cons rfl (fun K hK => ?_) AllReadyH.nil
      go_simp
      refine (bare27_walk m _ _ _ (RU.out _ HB.out.drew).1 (RU.out _ HB.out.drew).2).mono ?_
      rintro e wA ⟨hbe, hbA⟩
      obtain ⟨ub, lb, rfl, hub, hlb⟩ := hbe
      have HUB := Lib.hid hub
      have HLB := Lib.hid hlb
      clear hub hlb
      have HBA := Lib.hid (HB.out.drew.trans (hbA.mono HB.out.drew.size))
      have HXA := Lib.hid (HX.out.drew.below hbA HX.out.drew.lt)
      clear hbA
      (try go_wp2_with fail)
      refine hK.out _ _ (⟨HXA.out.range, HXA.out.cell (i := 0) rfl, HXA.out.cell (i := 3) rfl⟩) (fun hHeld2 => ?_)
      clear hK K hHeld
      have hHeld := hHeld2
      clear hHeld2
      (try simp only [Act.put, Array.getInternal_eq_getElem, List.getElem_toArray, List.getElem_cons_succ, List.getElem_cons_zero, List.setIfInBounds_toArray, List.set_cons_zero, List.set_cons_succ])
      refine wpAnyH_ready (rs := [3]) (by kernel_rfl) (by simp) ?_
      refine AllReadyH.cons rfl (fun K hK => ?_) AllReadyH.nil
      go_simp
      refine (same27_walk m (bareD m) _ _ ub lb _ (RU.out _ HBA.out).1 (RU.out _ HBA.out).2 HUB.out HLB.out HL.out.1 HL.out.2 (bareD_up m HL.out.1) (bareD_left m HL.out.2)).mono ?_
      rintro e wB ⟨he, hbB⟩
      rw [HD.out] at he
      subst he
      have HBB := Lib.hid (HBA.out.trans (hbB.mono HBA.out.size))
      have HXB := Lib.hid (HXA.out.below hbB HXA.out.lt)
      clear hbB
      (try go_wp2_with fail)
      refine hK.out _ _ (⟨HXB.out.range, HXB.out.cell (i := 0) rfl, HXB.out.cell (i := 3) rfl⟩) (fun hHeld2 => ?_)
      clear hK K hHeld
      have hHeld := hHeld2
      clear hHeld2
      (try simp only [Act.put, Array.getInternal_eq_getElem, List.getElem_toArray, List.getElem_cons_succ, List.getElem_cons_zero, List.setIfInBounds_toArray, List.set_cons_zero, List.set_cons_succ])
      refine wpAnyH_take (i := 4) (v := ?_) rfl (by kernel_rfl) (by kernel_rfl) (by kernel_rfl) (fun _ _ _ h => h) (Or.inl ⟨by rfl, ?_⟩) (by assumption) ?_
      rotate_left
      · intro w hSw; (try dsimp only at hSw); go_simp; first | done | with_reducible rfl
      (try simp only [Act.put, Array.getInternal_eq_getElem, List.getElem_toArray, List.getElem_cons_succ, List.getElem_cons_zero, List.setIfInBounds_toArray, List.set_cons_zero, List.set_cons_succ])
      refine wpAnyH_take (i := 5) (v := ?_) rfl (by kernel_rfl) (by kernel_rfl) (by kernel_rfl) (fun _ _ _ h => h) (Or.inl ⟨by rfl, ?_⟩) (by assumption) ?_
      rotate_left
      · intro w hSw; (try dsimp only at hSw); go_simp; first | done | with_reducible rfl
      (try simp only [Act.put, Array.getInternal_eq_getElem, List.getElem_toArray, List.getElem_cons_succ, List.getElem_cons_zero, List.setIfInBounds_toArray, List.set_cons_zero, List.set_cons_succ])
      refine wpAnyH_take (i := 6) (v := ?_) rfl (by kernel_rfl) (by kernel_rfl) (by kernel_rfl) (fun _ _ _ h => h) (Or.inl ⟨by rfl, ?_⟩) (by assumption) ?_
      rotate_left
      · intro w hSw; (try dsimp only at hSw); go_simp; first | done | with_reducible rfl
      (try simp only [Act.put, Array.getInternal_eq_getElem, List.getElem_toArray, List.getElem_cons_succ, List.getElem_cons_zero, List.setIfInBounds_toArray, List.set_cons_zero, List.set_cons_succ])
      refine wpAnyH_take (i := 7) (v := ?_) rfl (by kernel_rfl) (by kernel_rfl) (by kernel_rfl) (fun _ _ _ h => h) (Or.inl ⟨by rfl, ?_⟩) (by assumption) ?_
      rotate_left
      · intro w hSw; (try dsimp only at hSw); go_simp; first | done | with_reducible rfl
      (try simp only [Act.put, Array.getInternal_eq_getElem, List.getElem_toArray, List.getElem_cons_succ, List.getElem_cons_zero, List.setIfInBounds_toArray, List.set_cons_zero, List.set_cons_succ])
      refine wpAnyH_take (i := 8) (v := ?_) rfl (by kernel_rfl) (by kernel_rfl) (by kernel_rfl) (fun _ _ _ h => h) (Or.inl ⟨by rfl, ?_⟩) (by assumption) ?_
      rotate_left
      · intro w hSw; (try dsimp only at hSw); go_simp; first | done | with_reducible rfl
      (try simp only [Act.put, Array.getInternal_eq_getElem, List.getElem_toArray, List.getElem_cons_succ, List.getElem_cons_zero, List.setIfInBounds_toArray, List.set_cons_zero, List.set_cons_succ])
      refine wpAnyH_take (i := 9) (v := ?_) rfl (by kernel_rfl) (by kernel_rfl) (by kernel_rfl) (fun _ _ _ h => h) (Or.inl ⟨by rfl, ?_⟩) (by assumption) ?_
      rotate_left
      · intro w hSw; (try dsimp only at hSw); go_simp; first | done | with_reducible rfl
      (try simp only [Act.put, Array.getInternal_eq_getElem, List.getElem_toArray, List.getElem_cons_succ, List.getElem_cons_zero, List.setIfInBounds_toArray, List.set_cons_zero, List.set_cons_succ])
      refine wpAnyH_take (i := 10) (v := ?_) rfl (by kernel_rfl) (by kernel_rfl) (by kernel_rfl) (fun _ _ _ h => h) (Or.inl ⟨by rfl, ?_⟩) (by assumption) ?_
      rotate_left
      · intro w hSw; (try dsimp only at hSw); go_simp; first | done | with_reducible rfl
      (try simp only [Act.put, Array.getInternal_eq_getElem, List.getElem_toArray, List.getElem_cons_succ, List.getElem_cons_zero, List.setIfInBounds_toArray, List.set_cons_zero, List.set_cons_succ])
      refine wpAnyH_take (i := 11) (v := ?_) rfl (by kernel_rfl) (by kernel_rfl) (by kernel_rfl) (fun _ _ _ h => h) (Or.inl ⟨by rfl, ?_⟩) (by assumption) ?_
      rotate_left
      · intro w hSw; (try dsimp only at hSw); go_simp; first | done | with_reducible rfl
      (try simp only [Act.put, Array.getInternal_eq_getElem, List.getElem_toArray, List.getElem_cons_succ, List.getElem_cons_zero, List.setIfInBounds_toArray, List.set_cons_zero, List.set_cons_succ])
      refine wpAnyH_take (i := 12) (v := ?_) rfl (by kernel_rfl) (by kernel_rfl) (by kernel_rfl) (fun _ _ _ h => h) (Or.inl ⟨by rfl, ?_⟩) (by assumption) ?_
      rotate_left
      · intro w hSw; (try dsimp only at hSw); go_simp; first | done | with_reducible rfl
      (try simp only [Act.put, Array.getInternal_eq_getElem, List.getElem_toArray, List.getElem_cons_succ, List.getElem_cons_zero, List.setIfInBounds_toArray, List.set_cons_zero, List.set_cons_succ])
      refine wpAnyH_take (i := 13) (v := ?_) rfl (by kernel_rfl) (by kernel_rfl) (by kernel_rfl) (fun _ _ _ h => h) (Or.inl ⟨by rfl, ?_⟩) (by assumption) ?_
      rotate_left
      · intro w hSw; (try dsimp only at hSw); go_simp; first | done | with_reducible rfl
      (try simp only [Act.put, Array.getInternal_eq_getElem, List.getElem_toArray, List.getElem_cons_succ, List.getElem_cons_zero, List.setIfInBounds_toArray, List.set_cons_zero, List.set_cons_succ])
      refine wpAnyH_take (i := 14) (v := ?_) rfl (by kernel_rfl) (by kernel_rfl) (by kernel_rfl) (fun _ _ _ h => h) (Or.inl ⟨by rfl, ?_⟩) (by assumption) ?_
      rotate_left
      · intro w hSw; (try dsimp only at hSw); go_simp; first | done | with_reducible rfl
      (try simp only [Act.put, Array.getInternal_eq_getElem, List.getElem_toArray, List.getElem_cons_succ, List.getElem_cons_zero, List.setIfInBounds_toArray, List.set_cons_zero, List.set_cons_succ])
      refine wpAnyH_take (i := 15) (v := ?_) rfl (by kernel_rfl) (by kernel_rfl) (by kernel_rfl) (fun _ _ _ h => h) (Or.inl ⟨by rfl, ?_⟩) (by assumption) ?_
      rotate_left
      · intro w hSw; (try dsimp only at hSw); go_simp; first | done | with_reducible rfl
      (try simp only [Act.put, Array.getInternal_eq_getElem, List.getElem_toArray, List.getElem_cons_succ, List.getElem_cons_zero, List.setIfInBounds_toArray, List.set_cons_zero, List.set_cons_succ])
      refine wpAnyH_done (by kernel_rfl) ?_ _
      go_wp2_with fail
      go_meet
      case rel => exact ⟨congrArg Value.bool (by rw [← HQ3.out]; exact HAW.out), HXB.out, HBB.out⟩
  case rest =>
    obtain ⟨rfl, BX, HB⟩ := hcut
    cases q3 with
    | true =>
      have HR := Lib.hid (show rightM m = false from rightM_away HQ3.out)
      go_wp2_with fail
      go_ret
      exact ⟨by rw [HR.out]; rfl, HB⟩
    | false =>
      have HR := Lib.hid (show rightM m = rsaysOk m from rightM_stays HQ3.out)
      clear HQ3
      go_upto_region 4 with (first
        | ((with_reducible refine wpList_load_met 35 (.tmp 20) b 17 (m.told.cells (.slice ua m.told.up.length uc) (.slice la m.told.left.length lc)) _ (some 21) ((BX.ext (m.toldAt (.slice ua m.told.up.length uc) (.slice la m.told.left.length lc))).part (off := 17) rfl) Tryz.underlying35 rfl rsizeTold' ?hg ?ho ?hds ?hx ?_); (case ho | hg | hds | hx => rfl))
        | ((with_reducible refine wpList_alloc_new 35 tzero zeroTold (some 3) ?hgd ?ho ?hd ?_); (case hgd | ho | hd => rfl); (intro p w3 l3 B3 e3 z3); have X3 := BX.below e3 (Nat.lt_of_lt_of_le BX.lt l3))
        | ((with_reducible refine wpList_store_new 35 (.tmp 3) (.tmp 21) p tzero (m.told.cells (.slice ua m.told.up.length uc) (.slice la m.told.left.length lc)) 35 B3 rfl rsizeTold' (tcells_one ⟨_, _, rfl⟩ ⟨_, _, rfl⟩) ?hgd ?ho ?hx ?hy ?_); (case hgd | ho | hx | hy => rfl); (intro w4 B4 o4); have X4 := o4.blk X3 (by have := BX.lt; omega); have HB4 := o4.below (HB.trans (e3.mono (Nat.le_trans HB.size l3))) (Nat.le_trans HB.size l3))
        | fail)
      clear BX HB
      have BX := X4
      have BP := B4
      have HB := HB4
      clear X4 B4 HB4 X3 B3 o4 e3 l3 z3
      have j0 := BX.cell (i := 0) rfl; have j1 := BX.cell (i := 1) rfl; have j2 := BX.cell (i := 2) rfl; have j3 := BX.cell (i := 3) rfl; have j4 := BX.cell (i := 4) rfl; have j5 := BX.cell (i := 5) rfl; have j6 := BX.cell (i := 6) rfl; have j7 := BX.cell (i := 7) rfl; have j16 := BX.cell (i := 16) rfl
      have t0 := BP.cell (i := 0) rfl; have t1 := BP.cell (i := 1) rfl; have t2 := BP.cell (i := 2) rfl; have t3 := BP.cell (i := 3) rfl; have t4 := BP.cell (i := 4) rfl; have t5 := BP.cell (i := 5) rfl; have t6 := BP.cell (i := 6) rfl; have t7 := BP.cell (i := 7) rfl; have t8 := BP.cell (i := 8) rfl; have t9 := BP.cell (i := 9) rfl; have t10 := BP.cell (i := 10) rfl; have t11 := BP.cell (i := 11) rfl; have t12 := BP.cell (i := 12) rfl
      by_cases k1 : m.kind = 1
      · have j0' : w4.cell? ⟨b, 0, none⟩ = some (.int .i64 1) := by rw [← k1]; exact j0
        clear j0
        have j0 := j0'
        clear j0'
        have HK := Lib.hid k1
        clear k1
        go_wp2_with fail
        all_goals go_ret
        all_goals refine ⟨ret_b ?_, HB⟩
        all_goals (rw [HR.out]; unfold rsaysOk; rw [HK.out]; rfl)
      have n1 : (m.kind == 1) = false := by simp [k1]
      by_cases k2 : m.kind = 2
      · have j0' : w4.cell? ⟨b, 0, none⟩ = some (.int .i64 2) := by rw [← k2]; exact j0
        clear j0
        have j0 := j0'
        clear j0'
        have HK := Lib.hid k2
        clear n1 k2
        go_wp2_with (first
          | (go_at_call 97; refine (repoch_walk _ _).mono ?_; rintro e we ⟨rfl, rfl⟩)
          | fail)
        all_goals go_ret
        all_goals refine ⟨ret_b ?_, HB⟩
        all_goals (rw [HR.out]; unfold rsaysOk; rw [HK.out]; simp; done)
      have n2 : (m.kind == 2) = false := by simp [k2]
      by_cases k3 : m.kind = 3
      · have j0' : w4.cell? ⟨b, 0, none⟩ = some (.int .i64 3) := by rw [← k3]; exact j0
        clear j0
        have j0 := j0'
        clear j0'
        have HK := Lib.hid k3
        clear n1 n2 k3
        go_wp2_with (first
          | (go_at_call 97; refine (repoch_walk _ _).mono ?_; rintro e we ⟨rfl, rfl⟩)
          | fail)
        all_goals go_ret
        all_goals refine ⟨ret_b ?_, HB⟩
        all_goals (rw [HR.out]; unfold rsaysOk; rw [HK.out]; grind)
      have n3 : (m.kind == 3) = false := by simp [k3]
      by_cases k4 : m.kind = 4
      · have j0' : w4.cell? ⟨b, 0, none⟩ = some (.int .i64 4) := by rw [← k4]; exact j0
        clear j0
        have j0 := j0'
        clear j0'
        have HK := Lib.hid k4
        clear n1 n2 n3 k4
        go_wp2_with (first
          | (go_at_call 97; refine (repoch_walk _ _).mono ?_; rintro e we ⟨rfl, rfl⟩)
          | fail)
        all_goals go_ret
        all_goals refine ⟨ret_b ?_, HB⟩
        all_goals (rw [HR.out]; unfold rsaysOk; rw [HK.out]; grind)
      have n4 : (m.kind == 4) = false := by simp [k4]
      by_cases k5 : m.kind = 5
      · have j0' : w4.cell? ⟨b, 0, none⟩ = some (.int .i64 5) := by rw [← k5]; exact j0
        clear j0
        have j0 := j0'
        clear j0'
        have HK := Lib.hid k5
        clear n1 n2 n3 n4 k5
        go_wp2_with fail
        all_goals go_ret
        all_goals refine ⟨ret_b ?_, HB⟩
        all_goals (rw [HR.out]; unfold rsaysOk; rw [HK.out]; grind)
      have n5 : (m.kind == 5) = false := by simp [k5]
      by_cases k6 : m.kind = 6
      · have j0' : w4.cell? ⟨b, 0, none⟩ = some (.int .i64 6) := by rw [← k6]; exact j0
        clear j0
        have j0 := j0'
        clear j0'
        have HK := Lib.hid k6
        clear n1 n2 n3 n4 n5 k6
        go_wp2_with (first
          | ((with_reducible refine wpList_load_met 25 (.tmp 91) b 8 m.sld.r.cells _ (some 92) ((BX.ext (m.recAt (.slice ua m.told.up.length uc) (.slice la m.told.left.length lc))).part (off := 8) rfl) Tryz.underlying25 rfl rsizeRec ?hg ?ho ?hds ?hx ?_); (case ho | hg | hds | hx => rfl))
          | (go_at_call 98; refine (right_walk m.sld.r _).mono ?_; rintro e w5 ⟨rfl, hb5⟩; have HB5 := HB.trans (hb5.mono HB.size); have BX5 := BX.below hb5 BX.lt; have BP5 := BP.below hb5 BP.lt; clear HB BX BP hb5 t0 t1 t2 t3 t4 t5 t6 t7 t8 t9 t10 t11 t12 j0 j1 j2 j3 j4 j5 j6 j7 j16; have HB := HB5; have BX := BX5; have BP := BP5; clear HB5 BX5 BP5; have j0 := BX.cell (i := 0) rfl; have j1 := BX.cell (i := 1) rfl; have j2 := BX.cell (i := 2) rfl; have j3 := BX.cell (i := 3) rfl; have j4 := BX.cell (i := 4) rfl; have j5 := BX.cell (i := 5) rfl; have j6 := BX.cell (i := 6) rfl; have j7 := BX.cell (i := 7) rfl; have j16 := BX.cell (i := 16) rfl; have t0 := BP.cell (i := 0) rfl; have t1 := BP.cell (i := 1) rfl; have t2 := BP.cell (i := 2) rfl; have t3 := BP.cell (i := 3) rfl; have t4 := BP.cell (i := 4) rfl; have t5 := BP.cell (i := 5) rfl; have t6 := BP.cell (i := 6) rfl; have t7 := BP.cell (i := 7) rfl; have t8 := BP.cell (i := 8) rfl; have t9 := BP.cell (i := 9) rfl; have t10 := BP.cell (i := 10) rfl; have t11 := BP.cell (i := 11) rfl; have t12 := BP.cell (i := 12) rfl)
          | fail)
        all_goals go_ret
        all_goals refine ⟨ret_b ?_, HB⟩
        all_goals (rw [HR.out]; unfold rsaysOk; rw [HK.out]; grind)
      have n6 : (m.kind == 6) = false := by simp [k6]
      by_cases k7 : m.kind = 7
      · have j0' : w4.cell? ⟨b, 0, none⟩ = some (.int .i64 7) := by rw [← k7]; exact j0
        clear j0
        have j0 := j0'
        clear j0'
        have HK := Lib.hid k7
        clear n1 n2 n3 n4 n5 n6 k7
        go_wp2_with (first
          | (go_at_call 99; refine (rask_walk _ _ _).mono ?_; rintro e w5 ⟨rfl, hb5⟩; have HB5 := HB.trans (hb5.mono HB.size); have BX5 := BX.below hb5 BX.lt; have BP5 := BP.below hb5 BP.lt; clear HB BX BP hb5 t0 t1 t2 t3 t4 t5 t6 t7 t8 t9 t10 t11 t12 j0 j1 j2 j3 j4 j5 j6 j7 j16; have HB := HB5; have BX := BX5; have BP := BP5; clear HB5 BX5 BP5; have j0 := BX.cell (i := 0) rfl; have j1 := BX.cell (i := 1) rfl; have j2 := BX.cell (i := 2) rfl; have j3 := BX.cell (i := 3) rfl; have j4 := BX.cell (i := 4) rfl; have j5 := BX.cell (i := 5) rfl; have j6 := BX.cell (i := 6) rfl; have j7 := BX.cell (i := 7) rfl; have j16 := BX.cell (i := 16) rfl; have t0 := BP.cell (i := 0) rfl; have t1 := BP.cell (i := 1) rfl; have t2 := BP.cell (i := 2) rfl; have t3 := BP.cell (i := 3) rfl; have t4 := BP.cell (i := 4) rfl; have t5 := BP.cell (i := 5) rfl; have t6 := BP.cell (i := 6) rfl; have t7 := BP.cell (i := 7) rfl; have t8 := BP.cell (i := 8) rfl; have t9 := BP.cell (i := 9) rfl; have t10 := BP.cell (i := 10) rfl; have t11 := BP.cell (i := 11) rfl; have t12 := BP.cell (i := 12) rfl)
          | fail)
        all_goals go_ret
        all_goals refine ⟨ret_b ?_, HB⟩
        all_goals (rw [HR.out]; unfold rsaysOk; rw [HK.out]; simp; done)
      have n7 : (m.kind == 7) = false := by simp [k7]
      by_cases k8 : m.kind = 8
      · have j0' : w4.cell? ⟨b, 0, none⟩ = some (.int .i64 8) := by rw [← k8]; exact j0
        clear j0
        have j0 := j0'
        clear j0'
        have HK := Lib.hid k8
        clear n1 n2 n3 n4 n5 n6 n7 k8
        go_wp2_with (first
          | (have _ := hleaf; go_at_call 100; refine (rleaf_walk m.told.ahead _).mono ?_; rintro e w7 ⟨rfl, hb7⟩; have HB7 := HB.trans (hb7.mono HB.size); have BX7 := BX.below hb7 BX.lt; have BP7 := BP.below hb7 BP.lt; clear HB BX BP hb7 t0 t1 t2 t3 t4 t5 t6 t7 t8 t9 t10 t11 t12 j0 j1 j2 j3 j4 j5 j6 j7 j16; have HB := HB7; have BX := BX7; have BP := BP7; clear HB7 BX7 BP7; have j0 := BX.cell (i := 0) rfl; have j1 := BX.cell (i := 1) rfl; have j2 := BX.cell (i := 2) rfl; have j3 := BX.cell (i := 3) rfl; have j4 := BX.cell (i := 4) rfl; have j5 := BX.cell (i := 5) rfl; have j6 := BX.cell (i := 6) rfl; have j7 := BX.cell (i := 7) rfl; have j16 := BX.cell (i := 16) rfl; have t0 := BP.cell (i := 0) rfl; have t1 := BP.cell (i := 1) rfl; have t2 := BP.cell (i := 2) rfl; have t3 := BP.cell (i := 3) rfl; have t4 := BP.cell (i := 4) rfl; have t5 := BP.cell (i := 5) rfl; have t6 := BP.cell (i := 6) rfl; have t7 := BP.cell (i := 7) rfl; have t8 := BP.cell (i := 8) rfl; have t9 := BP.cell (i := 9) rfl; have t10 := BP.cell (i := 10) rfl; have t11 := BP.cell (i := 11) rfl; have t12 := BP.cell (i := 12) rfl)
          | (have _ := hwhole; go_at_call 101; refine (whole15_walk _ m.told.left _ (RU.out _ HB).2 (by omega)).mono ?_; rintro e w9 ⟨rfl, rfl⟩)
          | (go_at_call 99; refine (rask_walk _ _ _).mono ?_; rintro e w5 ⟨rfl, hb5⟩; have HB5 := HB.trans (hb5.mono HB.size); have BX5 := BX.below hb5 BX.lt; have BP5 := BP.below hb5 BP.lt; clear HB BX BP hb5 t0 t1 t2 t3 t4 t5 t6 t7 t8 t9 t10 t11 t12 j0 j1 j2 j3 j4 j5 j6 j7 j16; have HB := HB5; have BX := BX5; have BP := BP5; clear HB5 BX5 BP5; have j0 := BX.cell (i := 0) rfl; have j1 := BX.cell (i := 1) rfl; have j2 := BX.cell (i := 2) rfl; have j3 := BX.cell (i := 3) rfl; have j4 := BX.cell (i := 4) rfl; have j5 := BX.cell (i := 5) rfl; have j6 := BX.cell (i := 6) rfl; have j7 := BX.cell (i := 7) rfl; have j16 := BX.cell (i := 16) rfl; have t0 := BP.cell (i := 0) rfl; have t1 := BP.cell (i := 1) rfl; have t2 := BP.cell (i := 2) rfl; have t3 := BP.cell (i := 3) rfl; have t4 := BP.cell (i := 4) rfl; have t5 := BP.cell (i := 5) rfl; have t6 := BP.cell (i := 6) rfl; have t7 := BP.cell (i := 7) rfl; have t8 := BP.cell (i := 8) rfl; have t9 := BP.cell (i := 9) rfl; have t10 := BP.cell (i := 10) rfl; have t11 := BP.cell (i := 11) rfl; have t12 := BP.cell (i := 12) rfl)
          | (go_at_call 97; refine (repoch_walk _ _).mono ?_; rintro e we ⟨rfl, rfl⟩)
          | (go_at_call 100; refine (rleaf_walk m.told.here _).mono ?_; rintro e w6 ⟨rfl, hb6⟩; have hleaf := True.intro; have HB6 := HB.trans (hb6.mono HB.size); have BX6 := BX.below hb6 BX.lt; have BP6 := BP.below hb6 BP.lt; clear HB BX BP hb6 t0 t1 t2 t3 t4 t5 t6 t7 t8 t9 t10 t11 t12 j0 j1 j2 j3 j4 j5 j6 j7 j16; have HB := HB6; have BX := BX6; have BP := BP6; clear HB6 BX6 BP6; have j0 := BX.cell (i := 0) rfl; have j1 := BX.cell (i := 1) rfl; have j2 := BX.cell (i := 2) rfl; have j3 := BX.cell (i := 3) rfl; have j4 := BX.cell (i := 4) rfl; have j5 := BX.cell (i := 5) rfl; have j6 := BX.cell (i := 6) rfl; have j7 := BX.cell (i := 7) rfl; have j16 := BX.cell (i := 16) rfl; have t0 := BP.cell (i := 0) rfl; have t1 := BP.cell (i := 1) rfl; have t2 := BP.cell (i := 2) rfl; have t3 := BP.cell (i := 3) rfl; have t4 := BP.cell (i := 4) rfl; have t5 := BP.cell (i := 5) rfl; have t6 := BP.cell (i := 6) rfl; have t7 := BP.cell (i := 7) rfl; have t8 := BP.cell (i := 8) rfl; have t9 := BP.cell (i := 9) rfl; have t10 := BP.cell (i := 10) rfl; have t11 := BP.cell (i := 11) rfl; have t12 := BP.cell (i := 12) rfl)
          | (go_at_call 101; refine (whole15_walk _ m.told.up _ (RU.out _ HB).1 (by omega)).mono ?_; rintro e w8 ⟨rfl, rfl⟩; have hwhole := True.intro)
          | fail)
        all_goals go_ret
        all_goals refine ⟨ret_b ?_, HB⟩
        all_goals (rw [HR.out]; unfold rsaysOk; rw [HK.out]; simp only [rtoldOk]; grind)
      have n8 : (m.kind == 8) = false := by simp [k8]
      by_cases k10 : m.kind = 10
      · have j0' : w4.cell? ⟨b, 0, none⟩ = some (.int .i64 10) := by rw [← k10]; exact j0
        clear j0
        have j0 := j0'
        clear j0'
        have HK := Lib.hid k10
        clear n1 n2 n3 n4 n5 n6 n7 n8 k10
        go_wp2_with (first
          | ((with_reducible refine wpList_load_met 37 (.tmp 175) b 30 m.rcp.cells _ (some 176) ((BX.ext (m.rcpAt (.slice ua m.told.up.length uc) (.slice la m.told.left.length lc))).part (off := 30) rfl) Tryz.underlying37 rfl rsizeRcp ?hg ?ho ?hds ?hx ?_); (case ho | hg | hds | hx => rfl))
          | (go_at_call 73; refine (right21_walk m.rcp _).mono ?_; rintro e w5 ⟨rfl, hb5⟩; have HB5 := HB.trans (hb5.mono HB.size); have BX5 := BX.below hb5 BX.lt; have BP5 := BP.below hb5 BP.lt; clear HB BX BP hb5 t0 t1 t2 t3 t4 t5 t6 t7 t8 t9 t10 t11 t12 j0 j1 j2 j3 j4 j5 j6 j7 j16; have HB := HB5; have BX := BX5; have BP := BP5; clear HB5 BX5 BP5; have j0 := BX.cell (i := 0) rfl; have j1 := BX.cell (i := 1) rfl; have j2 := BX.cell (i := 2) rfl; have j3 := BX.cell (i := 3) rfl; have j4 := BX.cell (i := 4) rfl; have j5 := BX.cell (i := 5) rfl; have j6 := BX.cell (i := 6) rfl; have j7 := BX.cell (i := 7) rfl; have j16 := BX.cell (i := 16) rfl; have t0 := BP.cell (i := 0) rfl; have t1 := BP.cell (i := 1) rfl; have t2 := BP.cell (i := 2) rfl; have t3 := BP.cell (i := 3) rfl; have t4 := BP.cell (i := 4) rfl; have t5 := BP.cell (i := 5) rfl; have t6 := BP.cell (i := 6) rfl; have t7 := BP.cell (i := 7) rfl; have t8 := BP.cell (i := 8) rfl; have t9 := BP.cell (i := 9) rfl; have t10 := BP.cell (i := 10) rfl; have t11 := BP.cell (i := 11) rfl; have t12 := BP.cell (i := 12) rfl)
          | fail)
        all_goals go_ret
        all_goals refine ⟨ret_b ?_, HB⟩
        all_goals (rw [HR.out]; unfold rsaysOk; rw [HK.out]; simp; done)
      have n10 : (m.kind == 10) = false := by simp [k10]
      have HK := Lib.hid (show rsaysOk m = false by unfold rsaysOk; simp [k1, k2, k3, k4, k5, k6, k7, k8, k10])
      clear k1 k2 k3 k4 k5 k6 k7 k8 k10
      go_wp2_with fail
      go_ret
      exact ⟨by rw [HR.out, HK.out]; rfl, HB⟩
end Go.Proofs.YtidekfbgjghcjaaGreat

