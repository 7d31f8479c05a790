/- A space's blocks, given out (chapter 13); how many there are (chapter 9). A journal within a volume (chapter 25): ready, Used, Room, Read, Append. A journal within a volume (chapter 25): next, time. -/
import Derived.Test.YtppdboadjefieaaGreatQ8
import Derived.Deep.RegionHeld3
import Derived.Test.YtppdboadjefieaaGreatQ15
import Derived.Test.YtppdboadjefieaaGreatQ13
import Derived.Test.YtppdboadjefieaaGreatQ10
set_option linter.unusedSimpArgs false
set_option linter.unusedVariables false
namespace Go.Proofs.YtppdboadjefieaaGreat
open Go Go.RowKit
set_option maxRecDepth 100000

def roomI (g : GeoD) (used : Int) : Int := max (g.blocks - 5 - used) 0
set_option maxHeartbeats 1000000 in
theorem geomRoom_walk (g : GeoD) (used : Int) (w : World) (hg : GeoOk g) (h0 : 0 ≤ used) (h1 : used ≤ g.blocks - 4) :
    Calls Tryz.prog 255 #[g.v, .int .i64 used] w fun e w' => e = .returned (.int .i64 (roomI g used)) ∧ Below w.heap.size w w' := by
  have hb1 := hg.b1
  have hb0 := hg.b0
  have hu : used ≤ 1024 := by omega
  have hn : ¬ used < 0 := by omega
  have hmin : min used 1024 = used := by omega
  obtain ⟨r, hr⟩ : ∃ r, roomI g used = r := ⟨_, rfl⟩
  have HR := Lib.hid hr
  have HG := Lib.hid hg
  rw [hr]
  clear hr hg
  go_enter Tryz.func255, Tryz.ntmps255
  go_wp2_with (first
    | ((with_reducible refine wpList_box_new 23 (.tmp 0) g.cells (some 2) ?hgd ?ho ?hd ?hx ?_); (case hgd | ho | hd | hx => rfl); (intro b1 w1 l1 B1 e1 z1))
    | ((with_reducible refine wpList_load_blk 23 (.tmp 2) b1 g.cells 23 _ B1 Tryz.underlying23 rfl sizeGeo ?hgd ?ho ?hx ?_); (case hgd | ho | hx => rfl))
    | fail)
  refine (geomData_walk g _ HG.out).mono ?_
  rintro e w2 ⟨rfl, hb2⟩
  have HBE := Lib.hid ((e1.mono l1).trans (hb2.mono (Nat.le_trans l1 (Nat.le_of_lt z1))))
  clear hb2 B1 e1 l1 z1
  obtain ⟨bl, hbl⟩ : ∃ bl, g.blocks = bl := ⟨_, rfl⟩
  have HBL := Lib.hid hbl
  rw [hbl] at hb1 hb0 h1 ⊢
  clear hbl
  go_wp2_with fail
  go_ret
  refine ⟨?_, HBE.out⟩
  have h9 := HR.out
  unfold roomI at h9
  rw [HBL.out] at h9
  show Ending.returned (.int .i64 (max (bl - 4 - 1 - used) 0)) = .returned (.int .i64 r)
  rw [← h9, show bl - 4 - 1 - used = bl - 5 - used by omega]
theorem space_geo {w : World} {sb : Nat} {g : GeoD} {used : Int} {t : TypeId} (h : Blk w sb (spaceCells g used) t) : w.rangeAt sb 0 g.cells := by
  intro j v hv
  rw [Nat.zero_add]
  match j, hv with
  | 0, hv => simp [GeoD.cells] at hv; subst hv; exact h.cell (i := 0) rfl
  | 1, hv => simp [GeoD.cells] at hv; subst hv; exact h.cell (i := 1) rfl
  | 2, hv => simp [GeoD.cells] at hv; subst hv; exact h.cell (i := 2) rfl
  | j + 3, hv => simp [GeoD.cells] at hv
set_option maxHeartbeats 1000000 in
theorem spaceRoom_walk (sb : Nat) (g : GeoD) (used : Int) (w : World) (h : Blk w sb (spaceCells g used) 215) (hg : GeoOk g) (h0 : 0 ≤ used) (h1 : used ≤ g.blocks - 4) :
    Calls Tryz.prog 161 #[.pointer (some ⟨sb, 0, none⟩)] w fun e w' => e = .returned (.int .i64 (roomI g used)) ∧ Below w.heap.size w w' := by
  go_enter Tryz.func161, Tryz.ntmps161
  go_wp2_with fail
  refine (spaceThere_walk sb g used _ h hg).mono ?_
  rintro e w' ⟨rfl, rfl⟩
  go_wp2_with fail
  refine wp_region_held_drew (S := fun wx => wx.rangeAt sb 0 g.cells ∧ wx.cell? ⟨sb, 3, none⟩ = some (.int .i64 used)) (by kernel_rfl) (⟨space_geo h.drew, h.drew.cell (i := 3) rfl⟩) (fun hHeld => ?_)
  refine wpAnyH_take (i := 0) (v := ?_) rfl (by kernel_rfl) (by kernel_rfl) (by kernel_rfl) (fun _ _ _ h => h) (Or.inl ⟨by rfl, ?_⟩) (by assumption) ?_
  rotate_left
  · intro w hSw; (try dsimp only at hSw); go_simp; first | done | with_reducible rfl
  (try simp only [Act.put, Array.getInternal_eq_getElem, List.getElem_toArray, List.getElem_cons_succ, List.getElem_cons_zero, List.setIfInBounds_toArray, List.set_cons_zero, List.set_cons_succ])
  refine wpAnyH_take (i := 1) (v := ?_) rfl (by kernel_rfl) (by kernel_rfl) (by kernel_rfl) (fun _ _ _ h => h) (Or.inl ⟨by rfl, ?_⟩) (by assumption) ?_
  rotate_left
  · intro w hSw; (try dsimp only at hSw); go_simp; first | done | with_reducible rfl
  (try simp only [Act.put, Array.getInternal_eq_getElem, List.getElem_toArray, List.getElem_cons_succ, List.getElem_cons_zero, List.setIfInBounds_toArray, List.set_cons_zero, List.set_cons_succ])
  refine wpAnyH_take (i := 2) (v := ?_) rfl (by kernel_rfl) (by kernel_rfl) (by kernel_rfl) (fun _ _ _ h => h) (Or.inl ⟨by rfl, ?_⟩) (by assumption) ?_
  rotate_left
  · intro w hSw; (try dsimp only at hSw); go_simp; first | done | with_reducible rfl
  (try simp only [Act.put, Array.getInternal_eq_getElem, List.getElem_toArray, List.getElem_cons_succ, List.getElem_cons_zero, List.setIfInBounds_toArray, List.set_cons_zero, List.set_cons_succ])
  refine wpAnyH_take (i := 3) (v := .agg (g.cells).toArray) rfl (by kernel_rfl) (by kernel_rfl) (by kernel_rfl) (fun _ _ _ h => h) (yieldsIf_load_mid (by rfl) 23 (.tmp 8) rfl sb 0 rfl (g.cells) _ (fun w h => h.1) Tryz.underlying23 rfl sizeGeo) (by assumption) ?_
  (try simp only [Act.put, Array.getInternal_eq_getElem, List.getElem_toArray, List.getElem_cons_succ, List.getElem_cons_zero, List.setIfInBounds_toArray, List.set_cons_zero, List.set_cons_succ])
  refine wpAnyH_take (i := 4) (v := ?_) rfl (by kernel_rfl) (by kernel_rfl) (by kernel_rfl) (fun _ _ _ h => h) (Or.inl ⟨by rfl, ?_⟩) (by assumption) ?_
  rotate_left
  · intro w hSw; (try dsimp only at hSw); go_simp; first | done | with_reducible rfl
  (try simp only [Act.put, Array.getInternal_eq_getElem, List.getElem_toArray, List.getElem_cons_succ, List.getElem_cons_zero, List.setIfInBounds_toArray, List.set_cons_zero, List.set_cons_succ])
  refine wpAnyH_take (i := 5) (v := ?_) rfl (by kernel_rfl) (by kernel_rfl) (by kernel_rfl) (fun _ _ _ h => h) (Or.inl ⟨by rfl, ?_⟩) (by assumption) ?_
  rotate_left
  · intro w hSw; (try dsimp only at hSw); go_simp; first | done | with_reducible rfl
  (try simp only [Act.put, Array.getInternal_eq_getElem, List.getElem_toArray, List.getElem_cons_succ, List.getElem_cons_zero, List.setIfInBounds_toArray, List.set_cons_zero, List.set_cons_succ])
  refine wpAnyH_take (i := 6) (v := ?_) rfl (by kernel_rfl) (by kernel_rfl) (by kernel_rfl) (fun _ _ _ h => h) (Or.inl ⟨by rfl, ?_⟩) (by assumption) ?_
  rotate_left
  · intro w hSw; (try dsimp only at hSw); go_simp; first | done | with_reducible rfl
  (try simp only [Act.put, Array.getInternal_eq_getElem, List.getElem_toArray, List.getElem_cons_succ, List.getElem_cons_zero, List.setIfInBounds_toArray, List.set_cons_zero, List.set_cons_succ])
  refine wpAnyH_take (i := 7) (v := ?_) rfl (by kernel_rfl) (by kernel_rfl) (by kernel_rfl) (fun _ _ _ h => h) (Or.inl ⟨by rfl, ?_⟩) (by assumption) ?_
  rotate_left
  · intro w hSw; (try dsimp only at hSw); go_simp; first | done | with_reducible rfl
  (try simp only [Act.put, Array.getInternal_eq_getElem, List.getElem_toArray, List.getElem_cons_succ, List.getElem_cons_zero, List.setIfInBounds_toArray, List.set_cons_zero, List.set_cons_succ])
  refine wpAnyH_ready (rs := [8]) (by kernel_rfl) (by simp) ?_
  refine AllReadyH.cons rfl (fun K hK => ?_) AllReadyH.nil
  go_simp
  refine (geomRoom_walk g used _ hg h0 h1).mono ?_
  rintro e wa ⟨rfl, hba⟩
  have HBa := Lib.hid hba
  have HSa := Lib.hid (h.drew.below hba h.drew.lt)
  clear hba
  (try go_wp2_with fail)
  refine hK.out _ _ (⟨space_geo HSa.out, HSa.out.cell (i := 3) rfl⟩) (fun hHeld2 => ?_)
  clear hK K hHeld
  have hHeld := hHeld2
  clear hHeld2
  (try simp only [Act.put, Array.getInternal_eq_getElem, List.getElem_toArray, List.getElem_cons_succ, List.getElem_cons_zero, List.setIfInBounds_toArray, List.set_cons_zero, List.set_cons_succ])
  refine wpAnyH_take (i := 9) (v := ?_) rfl (by kernel_rfl) (by kernel_rfl) (by kernel_rfl) (fun _ _ _ h => h) (Or.inl ⟨by rfl, ?_⟩) (by assumption) ?_
  rotate_left
  · intro w hSw; (try dsimp only at hSw); go_simp; first | done | with_reducible rfl
  (try simp only [Act.put, Array.getInternal_eq_getElem, List.getElem_toArray, List.getElem_cons_succ, List.getElem_cons_zero, List.setIfInBounds_toArray, List.set_cons_zero, List.set_cons_succ])
  refine wpAnyH_done (by kernel_rfl) ?_ _
  clear hHeld
  go_wp2_with fail
  go_ret
  exact ⟨rfl, (Below.refl _ _).drew.trans HBa.out⟩
set_option maxHeartbeats 1000000 in
theorem spaceOpen_walk (sb : Nat) (g : GeoD) (used : Int) (w : World) (h : Blk w sb (spaceCells g used) 215) (hg : GeoOk g) :
    Calls Tryz.prog 57 #[.pointer (some ⟨sb, 0, none⟩)] w fun e w' => e = .returned (.bool (decide (used < g.blocks - 4))) ∧ Below w.heap.size w w' := by
  go_enter Tryz.func57, Tryz.ntmps57
  go_wp2_with fail
  refine wp_region_held_drew (S := fun wx => wx.rangeAt sb 0 g.cells ∧ wx.cell? ⟨sb, 3, none⟩ = some (.int .i64 used)) (by kernel_rfl) (⟨space_geo h.drew, h.drew.cell (i := 3) rfl⟩) (fun hHeld => ?_)
  refine wpAnyH_take (i := 0) (v := ?_) rfl (by kernel_rfl) (by kernel_rfl) (by kernel_rfl) (fun _ _ _ h => h) (Or.inl ⟨by rfl, ?_⟩) (by assumption) ?_
  rotate_left
  · intro w hSw; (try dsimp only at hSw); go_simp; first | done | with_reducible rfl
  (try simp only [Act.put, Array.getInternal_eq_getElem, List.getElem_toArray, List.getElem_cons_succ, List.getElem_cons_zero, List.setIfInBounds_toArray, List.set_cons_zero, List.set_cons_succ])
  refine wpAnyH_ready (rs := [1]) (by kernel_rfl) (by simp) ?_
  refine AllReadyH.cons rfl (fun K hK => ?_) AllReadyH.nil
  go_simp
  refine (spaceThere_walk sb g used _ h.drew hg).mono ?_
  rintro e w' ⟨rfl, rfl⟩
  (try go_wp2_with fail)
  refine hK.out _ _ (⟨space_geo h.drew, h.drew.cell (i := 3) rfl⟩) (fun hHeld2 => ?_)
  clear hK K hHeld
  have hHeld := hHeld2
  clear hHeld2
  (try simp only [Act.put, Array.getInternal_eq_getElem, List.getElem_toArray, List.getElem_cons_succ, List.getElem_cons_zero, List.setIfInBounds_toArray, List.set_cons_zero, List.set_cons_succ])
  refine wpAnyH_take (i := 2) (v := ?_) rfl (by kernel_rfl) (by kernel_rfl) (by kernel_rfl) (fun _ _ _ h => h) (Or.inl ⟨by rfl, ?_⟩) (by assumption) ?_
  rotate_left
  · intro w hSw; (try dsimp only at hSw); go_simp; first | done | with_reducible rfl
  (try simp only [Act.put, Array.getInternal_eq_getElem, List.getElem_toArray, List.getElem_cons_succ, List.getElem_cons_zero, List.setIfInBounds_toArray, List.set_cons_zero, List.set_cons_succ])
  refine wpAnyH_take (i := 3) (v := ?_) rfl (by kernel_rfl) (by kernel_rfl) (by kernel_rfl) (fun _ _ _ h => h) (Or.inl ⟨by rfl, ?_⟩) (by assumption) ?_
  rotate_left
  · intro w hSw; (try dsimp only at hSw); go_simp; first | done | with_reducible rfl
  (try simp only [Act.put, Array.getInternal_eq_getElem, List.getElem_toArray, List.getElem_cons_succ, List.getElem_cons_zero, List.setIfInBounds_toArray, List.set_cons_zero, List.set_cons_succ])
  refine wpAnyH_take (i := 4) (v := ?_) rfl (by kernel_rfl) (by kernel_rfl) (by kernel_rfl) (fun _ _ _ h => h) (Or.inl ⟨by rfl, ?_⟩) (by assumption) ?_
  rotate_left
  · intro w hSw; (try dsimp only at hSw); go_simp; first | done | with_reducible rfl
  (try simp only [Act.put, Array.getInternal_eq_getElem, List.getElem_toArray, List.getElem_cons_succ, List.getElem_cons_zero, List.setIfInBounds_toArray, List.set_cons_zero, List.set_cons_succ])
  refine wpAnyH_take (i := 5) (v := ?_) rfl (by kernel_rfl) (by kernel_rfl) (by kernel_rfl) (fun _ _ _ h => h) (Or.inl ⟨by rfl, ?_⟩) (by assumption) ?_
  rotate_left
  · intro w hSw; (try dsimp only at hSw); go_simp; first | done | with_reducible rfl
  (try simp only [Act.put, Array.getInternal_eq_getElem, List.getElem_toArray, List.getElem_cons_succ, List.getElem_cons_zero, List.setIfInBounds_toArray, List.set_cons_zero, List.set_cons_succ])
  refine wpAnyH_take (i := 6) (v := ?_) rfl (by kernel_rfl) (by kernel_rfl) (by kernel_rfl) (fun _ _ _ h => h) (Or.inl ⟨by rfl, ?_⟩) (by assumption) ?_
  rotate_left
  · intro w hSw; (try dsimp only at hSw); go_simp; first | done | with_reducible rfl
  (try simp only [Act.put, Array.getInternal_eq_getElem, List.getElem_toArray, List.getElem_cons_succ, List.getElem_cons_zero, List.setIfInBounds_toArray, List.set_cons_zero, List.set_cons_succ])
  refine wpAnyH_take (i := 7) (v := ?_) rfl (by kernel_rfl) (by kernel_rfl) (by kernel_rfl) (fun _ _ _ h => h) (Or.inl ⟨by rfl, ?_⟩) (by assumption) ?_
  rotate_left
  · intro w hSw; (try dsimp only at hSw); go_simp; first | done | with_reducible rfl
  (try simp only [Act.put, Array.getInternal_eq_getElem, List.getElem_toArray, List.getElem_cons_succ, List.getElem_cons_zero, List.setIfInBounds_toArray, List.set_cons_zero, List.set_cons_succ])
  refine wpAnyH_take (i := 8) (v := ?_) rfl (by kernel_rfl) (by kernel_rfl) (by kernel_rfl) (fun _ _ _ h => h) (Or.inl ⟨by rfl, ?_⟩) (by assumption) ?_
  rotate_left
  · intro w hSw; (try dsimp only at hSw); go_simp; first | done | with_reducible rfl
  (try simp only [Act.put, Array.getInternal_eq_getElem, List.getElem_toArray, List.getElem_cons_succ, List.getElem_cons_zero, List.setIfInBounds_toArray, List.set_cons_zero, List.set_cons_succ])
  refine wpAnyH_take (i := 9) (v := ?_) rfl (by kernel_rfl) (by kernel_rfl) (by kernel_rfl) (fun _ _ _ h => h) (Or.inl ⟨by rfl, ?_⟩) (by assumption) ?_
  rotate_left
  · intro w hSw; (try dsimp only at hSw); go_simp; first | done | with_reducible rfl
  (try simp only [Act.put, Array.getInternal_eq_getElem, List.getElem_toArray, List.getElem_cons_succ, List.getElem_cons_zero, List.setIfInBounds_toArray, List.set_cons_zero, List.set_cons_succ])
  refine wpAnyH_take (i := 10) (v := .agg (g.cells).toArray) rfl (by kernel_rfl) (by kernel_rfl) (by kernel_rfl) (fun _ _ _ h => h) (yieldsIf_load_mid (by rfl) 23 (.tmp 12) rfl sb 0 rfl (g.cells) _ (fun w h => h.1) Tryz.underlying23 rfl sizeGeo) (by assumption) ?_
  (try simp only [Act.put, Array.getInternal_eq_getElem, List.getElem_toArray, List.getElem_cons_succ, List.getElem_cons_zero, List.setIfInBounds_toArray, List.set_cons_zero, List.set_cons_succ])
  refine wpAnyH_ready (rs := [11]) (by kernel_rfl) (by simp) ?_
  refine AllReadyH.cons rfl (fun K hK => ?_) AllReadyH.nil
  go_simp
  refine (geomData_walk g _ hg).mono ?_
  rintro e wa ⟨rfl, hba⟩
  have HBa := Lib.hid hba
  have HSa := Lib.hid (h.drew.below hba h.drew.lt)
  clear hba
  (try go_wp2_with fail)
  refine hK.out _ _ (⟨space_geo HSa.out, HSa.out.cell (i := 3) rfl⟩) (fun hHeld2 => ?_)
  clear hK K hHeld
  have hHeld := hHeld2
  clear hHeld2
  (try simp only [Act.put, Array.getInternal_eq_getElem, List.getElem_toArray, List.getElem_cons_succ, List.getElem_cons_zero, List.setIfInBounds_toArray, List.set_cons_zero, List.set_cons_succ])
  refine wpAnyH_take (i := 12) (v := ?_) rfl (by kernel_rfl) (by kernel_rfl) (by kernel_rfl) (fun _ _ _ h => h) (Or.inl ⟨by rfl, ?_⟩) (by assumption) ?_
  rotate_left
  · intro w hSw; (try dsimp only at hSw); go_simp; first | done | with_reducible rfl
  (try simp only [Act.put, Array.getInternal_eq_getElem, List.getElem_toArray, List.getElem_cons_succ, List.getElem_cons_zero, List.setIfInBounds_toArray, List.set_cons_zero, List.set_cons_succ])
  refine wpAnyH_take (i := 13) (v := ?_) rfl (by kernel_rfl) (by kernel_rfl) (by kernel_rfl) (fun _ _ _ h => h) (Or.inl ⟨by rfl, ?_⟩) (by assumption) ?_
  rotate_left
  · intro w hSw; (try dsimp only at hSw); go_simp; first | done | with_reducible rfl
  (try simp only [Act.put, Array.getInternal_eq_getElem, List.getElem_toArray, List.getElem_cons_succ, List.getElem_cons_zero, List.setIfInBounds_toArray, List.set_cons_zero, List.set_cons_succ])
  refine wpAnyH_take (i := 14) (v := ?_) rfl (by kernel_rfl) (by kernel_rfl) (by kernel_rfl) (fun _ _ _ h => h) (Or.inl ⟨by rfl, ?_⟩) (by assumption) ?_
  rotate_left
  · intro w hSw; (try dsimp only at hSw); go_simp; first | done | with_reducible rfl
  (try simp only [Act.put, Array.getInternal_eq_getElem, List.getElem_toArray, List.getElem_cons_succ, List.getElem_cons_zero, List.setIfInBounds_toArray, List.set_cons_zero, List.set_cons_succ])
  refine wpAnyH_done (by kernel_rfl) ?_ _
  clear hHeld
  go_wp2_with fail
  go_ret
  first
    | exact ⟨rfl, (Below.refl _ _).drew.trans HBa.out⟩
    | exact ⟨ret_b (by simp), (Below.refl _ _).drew.trans HBa.out⟩
theorem spaceSome_walk (sb : Nat) (g : GeoD) (used : Int) (w : World) (h : Blk w sb (spaceCells g used) 215) (hg : GeoOk g) (h0 : 0 ≤ used) (h1 : used < g.blocks - 5) :
    Calls Tryz.prog 305 #[.pointer (some ⟨sb, 0, none⟩)] w fun e w' => e = .returned (.bool true) ∧ Below w.heap.size w w' := by
  have hr : 0 < roomI g used := by unfold roomI; omega
  go_enter Tryz.func305, Tryz.ntmps305
  go_wp2_with fail
  refine (spaceRoom_walk sb g used _ h hg h0 (by omega)).mono ?_
  rintro e w' ⟨rfl, hb⟩
  go_wp2_with fail
  go_ret
  exact ⟨rfl, hb⟩
set_option maxHeartbeats 1000000 in
theorem spaceNext_Take (sb : Nat) (g : GeoD) (used : Int) (w : World) (h : Blk w sb (spaceCells g used) 215) (hg : GeoOk g) (h0 : 0 ≤ used) (h1 : used < g.blocks - 5) :
    Calls Tryz.prog 234 #[.pointer (some ⟨sb, 0, none⟩), .func (.func 305) #[.pointer (some ⟨sb, 0, none⟩)] #[], .int .i64 5] w fun e w' => (e = .returned (.tuple #[.int .i64 used, .int .i64 0]) ∧ Blk w' sb (spaceCells g (used + 1)) 215) ∧ Turned [sb] w w' := by
  have hb1 := hg.b1
  have hu : used ≤ 1024 := by omega
  have hu1 : used + 1 - 1 = used := by omega
  go_enter Tryz.func234, Tryz.ntmps234
  go_wp2_with fail
  refine (spaceThere_walk sb g used _ h hg).mono ?_
  rintro e w' ⟨rfl, rfl⟩
  go_wp2_with fail
  refine (spaceSome_walk sb g used _ h hg h0 h1).mono ?_
  rintro e w1 ⟨rfl, hb⟩
  have h2 := h.below hb h.lt
  have c3 := h2.cell (i := 3) rfl
  have f3 := h2.free 3
  have HB := Lib.hid hb
  have H2 := Lib.hid h2
  clear hb h2
  go_wp2_with fail
  go_ret2
  refine ⟨⟨?_, (H2.out.set 3 _).ext rfl⟩, (Turned.of_below HB.out (Nat.le_refl _)).trans ((Turned.refl _ _).setCell (.inl (by simp)) 3 _)⟩
  first | rfl | (rw [hu1])
theorem spaceTake_walk (sb : Nat) (g : GeoD) (used : Int) (w : World) (h : Blk w sb (spaceCells g used) 215) (hg : GeoOk g) (h0 : 0 ≤ used) (h1 : used < g.blocks - 5) :
    Calls Tryz.prog 218 #[.pointer (some ⟨sb, 0, none⟩)] w fun e w' => (e = .returned (.tuple #[.int .i64 used, .int .i64 0]) ∧ Blk w' sb (spaceCells g (used + 1)) 215) ∧ Turned [sb] w w' := by
  have hmf : ∀ (fn : Fn) (first cap : Array Value) (w : World), (Instr.makeFunc fn first cap).run Tryz.prog w = .ok (.func fn first cap) w := fun _ _ _ _ => rfl
  go_enter Tryz.func218, Tryz.ntmps218
  go_wp2_with fail
  refine (spaceNext_Take sb g used _ h hg h0 h1).mono ?_
  rintro e w1 ⟨⟨rfl, hb⟩, ht⟩
  go_wp2_with fail
  go_ret2
  exact ⟨⟨rfl, hb⟩, ht⟩
set_option maxHeartbeats 1000000 in
theorem spaceNext_Close (sb : Nat) (g : GeoD) (used : Int) (w : World) (h : Blk w sb (spaceCells g used) 215) (hg : GeoOk g) (h0 : 0 ≤ used) (h1 : used < g.blocks - 4) :
    Calls Tryz.prog 234 #[.pointer (some ⟨sb, 0, none⟩), .func (.func 57) #[.pointer (some ⟨sb, 0, none⟩)] #[], .int .i64 6] w fun e w' => (e = .returned (.tuple #[.int .i64 used, .int .i64 0]) ∧ Blk w' sb (spaceCells g (used + 1)) 215) ∧ Turned [sb] w w' := by
  have hb1 := hg.b1
  have hu : used ≤ 1024 := by omega
  have hu1 : used + 1 - 1 = used := by omega
  go_enter Tryz.func234, Tryz.ntmps234
  go_wp2_with fail
  refine (spaceThere_walk sb g used _ h hg).mono ?_
  rintro e w' ⟨rfl, rfl⟩
  go_wp2_with fail
  refine ((spaceOpen_walk sb g used _ h hg).mono (fun e w' hh => show e = .returned (.bool true) ∧ Below _ _ w' from ⟨by rw [hh.1, decide_eq_true h1], hh.2⟩)).mono ?_
  rintro e w1 ⟨rfl, hb⟩
  have h2 := h.below hb h.lt
  have c3 := h2.cell (i := 3) rfl
  have f3 := h2.free 3
  have HB := Lib.hid hb
  have H2 := Lib.hid h2
  clear hb h2
  go_wp2_with fail
  go_ret2
  refine ⟨⟨?_, (H2.out.set 3 _).ext rfl⟩, (Turned.of_below HB.out (Nat.le_refl _)).trans ((Turned.refl _ _).setCell (.inl (by simp)) 3 _)⟩
  first | rfl | (rw [hu1])
theorem spaceClose_walk (sb : Nat) (g : GeoD) (used : Int) (w : World) (h : Blk w sb (spaceCells g used) 215) (hg : GeoOk g) (h0 : 0 ≤ used) (h1 : used < g.blocks - 4) :
    Calls Tryz.prog 145 #[.pointer (some ⟨sb, 0, none⟩)] w fun e w' => (e = .returned (.tuple #[.int .i64 used, .int .i64 0]) ∧ Blk w' sb (spaceCells g (used + 1)) 215) ∧ Turned [sb] w w' := by
  have hmf : ∀ (fn : Fn) (first cap : Array Value) (w : World), (Instr.makeFunc fn first cap).run Tryz.prog w = .ok (.func fn first cap) w := fun _ _ _ _ => rfl
  go_enter Tryz.func145, Tryz.ntmps145
  go_wp2_with fail
  refine (spaceNext_Close sb g used _ h hg h0 h1).mono ?_
  rintro e w1 ⟨⟨rfl, hb⟩, ht⟩
  go_wp2_with fail
  go_ret2
  exact ⟨⟨rfl, hb⟩, ht⟩
end Go.Proofs.YtppdboadjefieaaGreat

namespace Go.Proofs.YtppdboadjefieaaGreat
open Go Go.RowKit
set_option maxRecDepth 100000

structure VolOk (v : VolD) : Prop where
  sup : SupOk v.last
  u0 : 0 ≤ v.used
  u1 : v.used ≤ v.last.geo.blocks - 4
  calm : Calm v.d v.last.geo.blocks.toNat v.used.toNat
theorem VolOk.few {v : VolD} (h : VolOk v) : v.used.toNat ≤ 1020 := by have := h.u1; have := h.sup.geo.b1; omega
theorem VolOk.blocks {v : VolD} (h : VolOk v) : v.last.geo.blocks.toNat ≤ 1024 := by have := h.sup.geo.b1; omega
theorem jready_walk (i : VolI) (v : VolD) (w : World) (h : VolAt w i v) :
    Calls Tryz.prog 142 #[.pointer (some ⟨i.jb, 0, none⟩)] w fun e w' => e = .returned (.int .i64 0) ∧ w = w' := by
  have c1 := h.jour.cell (i := 1) rfl
  have c9 : w.cell? ⟨i.jb, 9, none⟩ = some (.bool false) := h.jour.cell (i := 9) rfl
  go_enter Tryz.func142, Tryz.ntmps142
  go_wp2_with fail
  go_ret
  exact ⟨rfl, rfl⟩
theorem jused_walk (i : VolI) (v : VolD) (w : World) (h : VolAt w i v) (ok : VolOk v) :
    Calls Tryz.prog 120 #[.pointer (some ⟨i.jb, 0, none⟩)] w fun e w' => e = .returned (.int .i64 v.used) ∧ w = w' := by
  have c0 := h.jour.cell (i := 0) rfl
  go_enter Tryz.func120, Tryz.ntmps120
  go_wp2_with fail
  refine (spaceUsed_walk i.sb v.last.geo v.used _ h.space ok.sup.geo).mono ?_
  rintro e w' ⟨rfl, rfl⟩
  go_wp2_with fail
  go_ret
  exact ⟨rfl, rfl⟩
theorem jroom_walk (i : VolI) (v : VolD) (w : World) (h : VolAt w i v) (ok : VolOk v) :
    Calls Tryz.prog 73 #[.pointer (some ⟨i.jb, 0, none⟩)] w fun e w' => e = .returned (.int .i64 (roomI v.last.geo v.used)) ∧ Below w.heap.size w w' := by
  have c0 := h.jour.cell (i := 0) rfl
  go_enter Tryz.func73, Tryz.ntmps73
  go_wp2_with fail
  refine (spaceRoom_walk i.sb v.last.geo v.used _ h.space ok.sup.geo ok.u0 ok.u1).mono ?_
  rintro e w' ⟨rfl, hb⟩
  go_wp2_with fail
  go_ret
  exact ⟨rfl, hb⟩
set_option maxHeartbeats 2000000 in
theorem jread_walk (i : VolI) (v : VolD) (k : Int) (w : World) (h : VolAt w i v) (ok : VolOk v) (h0 : 0 ≤ k) (h1 : k < v.used) :
    Calls Tryz.prog 159 #[.pointer (some ⟨i.jb, 0, none⟩), .int .i64 k] w fun e w' => e = .returned (.tuple #[.string (v.d.shown (4 + k)), .int .i64 0]) ∧ Below w.heap.size w w' := by
  have HK := Lib.hid (show 0 ≤ k ∧ k < v.last.geo.blocks - 4 from ⟨h0, by have := ok.u1; omega⟩)
  obtain ⟨kn, hkn⟩ : ∃ kn : Nat, (kn : Int) = 4 + k := ⟨(4 + k).toNat, by omega⟩
  have HKN := Lib.hid hkn
  have HKN2 := Lib.hid (show kn < v.last.geo.blocks.toNat from by have := ok.u1; omega)
  have HOK := Lib.hid ok
  have c0 := h.jour.cell (i := 0) rfl
  clear ok hkn
  go_enter Tryz.func159, Tryz.ntmps159
  go_wp2_with fail
  refine (jready_walk i v _ h).mono ?_
  rintro e w' ⟨rfl, rfl⟩
  go_wp2_with fail
  refine (spaceUsed_walk i.sb v.last.geo v.used _ h.space HOK.out.sup.geo).mono ?_
  rintro e w' ⟨rfl, rfl⟩
  go_upto_region 6 with fail
  clear c0
  refine wp_region_held_drew (S := fun wx => wx.cell? ⟨i.jb, 1, none⟩ = some (.pointer (some ⟨i.db, 0, none⟩))) (by kernel_rfl) (h.jour.drew.cell (i := 1) rfl) (fun hHeld => ?_)
  refine wpAnyH_take (i := 0) (v := ?_) rfl (by kernel_rfl) (by kernel_rfl) (by kernel_rfl) (fun _ _ _ h => h) (Or.inl ⟨by rfl, ?_⟩) (by assumption) ?_
  rotate_left
  · intro w hSw; (try dsimp only at hSw); go_simp; first | done | with_reducible rfl
  (try simp only [Act.put, Array.getInternal_eq_getElem, List.getElem_toArray, List.getElem_cons_succ, List.getElem_cons_zero, List.setIfInBounds_toArray, List.set_cons_zero, List.set_cons_succ])
  refine wpAnyH_take (i := 1) (v := ?_) rfl (by kernel_rfl) (by kernel_rfl) (by kernel_rfl) (fun _ _ _ h => h) (Or.inl ⟨by rfl, ?_⟩) (by assumption) ?_
  rotate_left
  · intro w hSw; (try dsimp only at hSw); go_simp; first | done | with_reducible rfl
  (try simp only [Act.put, Array.getInternal_eq_getElem, List.getElem_toArray, List.getElem_cons_succ, List.getElem_cons_zero, List.setIfInBounds_toArray, List.set_cons_zero, List.set_cons_succ])
  refine wpAnyH_take (i := 2) (v := ?_) rfl (by kernel_rfl) (by kernel_rfl) (by kernel_rfl) (fun _ _ _ h => h) (Or.inl ⟨by rfl, ?_⟩) (by assumption) ?_
  rotate_left
  · intro w hSw; (try dsimp only at hSw); go_simp; first | done | with_reducible rfl
  (try simp only [Act.put, Array.getInternal_eq_getElem, List.getElem_toArray, List.getElem_cons_succ, List.getElem_cons_zero, List.setIfInBounds_toArray, List.set_cons_zero, List.set_cons_succ])
  refine wpAnyH_take (i := 3) (v := ?_) rfl (by kernel_rfl) (by kernel_rfl) (by kernel_rfl) (fun _ _ _ h => h) (Or.inl ⟨by rfl, ?_⟩) (by assumption) ?_
  rotate_left
  · intro w hSw; (try dsimp only at hSw); go_simp; first | done | with_reducible rfl
  (try simp only [Act.put, Array.getInternal_eq_getElem, List.getElem_toArray, List.getElem_cons_succ, List.getElem_cons_zero, List.setIfInBounds_toArray, List.set_cons_zero, List.set_cons_succ])
  refine wpAnyH_take (i := 4) (v := ?_) rfl (by kernel_rfl) (by kernel_rfl) (by kernel_rfl) (fun _ _ _ h => h) (Or.inl ⟨by rfl, ?_⟩) (by assumption) ?_
  rotate_left
  · intro w hSw; (try dsimp only at hSw); go_simp; first | done | with_reducible rfl
  (try simp only [Act.put, Array.getInternal_eq_getElem, List.getElem_toArray, List.getElem_cons_succ, List.getElem_cons_zero, List.setIfInBounds_toArray, List.set_cons_zero, List.set_cons_succ])
  refine wpAnyH_take (i := 5) (v := ?_) rfl (by kernel_rfl) (by kernel_rfl) (by kernel_rfl) (fun _ _ _ h => h) (Or.inl ⟨by rfl, ?_⟩) (by assumption) ?_
  rotate_left
  · intro w hSw; (try dsimp only at hSw); go_simp; first | done | with_reducible rfl
  (try simp only [Act.put, Array.getInternal_eq_getElem, List.getElem_toArray, List.getElem_cons_succ, List.getElem_cons_zero, List.setIfInBounds_toArray, List.set_cons_zero, List.set_cons_succ])
  refine wpAnyH_ready (rs := [6]) (by kernel_rfl) (by simp) ?_
  refine AllReadyH.cons rfl (fun K hK => ?_) AllReadyH.nil
  go_simp
  refine (place_walk i.jb i.db _ v.last k _ h.jour.drew HOK.out.sup.geo HK.out.1 HK.out.2).mono ?_
  rintro e wa ⟨rfl, hba⟩
  have HBa := Lib.hid ((Below.refl _ _).drew.trans hba)
  have Ha := Lib.hid (h.below HBa.out)
  clear hba
  (try go_wp2_with fail)
  refine hK.out _ _ (Ha.out.jour.cell (i := 1) rfl) (fun hHeld2 => ?_)
  clear hK K hHeld
  have hHeld := hHeld2
  clear hHeld2
  (try simp only [Act.put, Array.getInternal_eq_getElem, List.getElem_toArray, List.getElem_cons_succ, List.getElem_cons_zero, List.setIfInBounds_toArray, List.set_cons_zero, List.set_cons_succ])
  refine wpAnyH_ready (rs := [7]) (by kernel_rfl) (by simp) ?_
  refine AllReadyH.cons rfl (fun K hK => ?_) AllReadyH.nil
  go_simp
  rw [← HKN.out]
  refine (dread_walk i.db v.d _ Ha.out.disk HOK.out.calm.up kn (by rw [HOK.out.calm.len]; exact HKN2.out) (by have := HOK.out.calm.few; have := HOK.out.few; omega) (by rw [HOK.out.calm.len]; exact HOK.out.blocks)).mono ?_
  rintro e w' ⟨rfl, rfl⟩
  (try go_wp2_with fail)
  refine hK.out _ _ (Ha.out.jour.cell (i := 1) rfl) (fun hHeld2 => ?_)
  clear hK K hHeld
  have hHeld := hHeld2
  clear hHeld2
  (try simp only [Act.put, Array.getInternal_eq_getElem, List.getElem_toArray, List.getElem_cons_succ, List.getElem_cons_zero, List.setIfInBounds_toArray, List.set_cons_zero, List.set_cons_succ])
  refine wpAnyH_take (i := 8) (v := ?_) rfl (by kernel_rfl) (by kernel_rfl) (by kernel_rfl) (fun _ _ _ h => h) (Or.inl ⟨by rfl, ?_⟩) (by assumption) ?_
  rotate_left
  · intro w hSw; (try dsimp only at hSw); go_simp; first | done | with_reducible rfl
  (try simp only [Act.put, Array.getInternal_eq_getElem, List.getElem_toArray, List.getElem_cons_succ, List.getElem_cons_zero, List.setIfInBounds_toArray, List.set_cons_zero, List.set_cons_succ])
  refine wpAnyH_take (i := 9) (v := ?_) rfl (by kernel_rfl) (by kernel_rfl) (by kernel_rfl) (fun _ _ _ h => h) (Or.inl ⟨by rfl, ?_⟩) (by assumption) ?_
  rotate_left
  · intro w hSw; (try dsimp only at hSw); go_simp; first | done | with_reducible rfl
  (try simp only [Act.put, Array.getInternal_eq_getElem, List.getElem_toArray, List.getElem_cons_succ, List.getElem_cons_zero, List.setIfInBounds_toArray, List.set_cons_zero, List.set_cons_succ])
  refine wpAnyH_take (i := 10) (v := ?_) rfl (by kernel_rfl) (by kernel_rfl) (by kernel_rfl) (fun _ _ _ h => h) (Or.inl ⟨by rfl, ?_⟩) (by assumption) ?_
  rotate_left
  · intro w hSw; (try dsimp only at hSw); go_simp; first | done | with_reducible rfl
  (try simp only [Act.put, Array.getInternal_eq_getElem, List.getElem_toArray, List.getElem_cons_succ, List.getElem_cons_zero, List.setIfInBounds_toArray, List.set_cons_zero, List.set_cons_succ])
  refine wpAnyH_take (i := 11) (v := ?_) rfl (by kernel_rfl) (by kernel_rfl) (by kernel_rfl) (fun _ _ _ h => h) (Or.inl ⟨by rfl, ?_⟩) (by assumption) ?_
  rotate_left
  · intro w hSw; (try dsimp only at hSw); go_simp; first | done | with_reducible rfl
  (try simp only [Act.put, Array.getInternal_eq_getElem, List.getElem_toArray, List.getElem_cons_succ, List.getElem_cons_zero, List.setIfInBounds_toArray, List.set_cons_zero, List.set_cons_succ])
  refine wpAnyH_done (by kernel_rfl) ?_ _
  clear hHeld
  go_wp2_with fail
  go_ret2
  exact ⟨by show Ending.returned (.tuple #[.string (v.d.shown (kn : Int)), .int .i64 0]) = _; rw [HKN.out], HBa.out⟩
set_option maxHeartbeats 4000000 in
theorem jappend_walk (i : VolI) (v : VolD) (block : ByteArray) (w : World) (h : VolAt w i v) (ok : VolOk v) (hb : block.size = 4096) (hu : v.used < v.last.geo.blocks - 5) :
    Calls Tryz.prog 123 #[.pointer (some ⟨i.jb, 0, none⟩), .string block] w fun e w' => e = .returned (.tuple #[.int .i64 v.used, .int .i64 0]) ∧ ∃ cv, VolTo w w' i v i { v with used := v.used + 1, d := { v.d with cv := cv, cs := v.d.cs ++ [(4 + v.used, block)] } } := by
  have hbi : (block.size : Int) = 4096 := by omega
  obtain ⟨u, hu0⟩ : ∃ u, v.used = u := ⟨_, rfl⟩
  have HU := Lib.hid hu0
  have HUB := Lib.hid (show 0 ≤ u ∧ u < v.last.geo.blocks - 5 from ⟨by rw [← hu0]; exact ok.u0, by rw [← hu0]; exact hu⟩)
  have HOK := Lib.hid ok
  have HB := Lib.hid hb
  have H0 := Lib.hid h
  rw [hu0]
  clear hu hu0 ok hb
  have c0 := h.jour.cell (i := 0) rfl
  go_enter Tryz.func123, Tryz.ntmps123
  go_wp2_with fail
  refine (jready_walk i v _ h).mono ?_
  rintro e w' ⟨rfl, rfl⟩
  go_wp2_with fail
  refine (spaceTake_walk i.sb v.last.geo u _ (by rw [← HU.out]; exact h.space) HOK.out.sup.geo HUB.out.1 HUB.out.2).mono ?_
  rintro e w1 ⟨⟨rfl, hs1⟩, ht1⟩
  have HT1 := Lib.hid (H0.out.take ht1 hs1)
  clear ht1 hs1 c0 h
  go_wp2_with fail
  refine (place_walk i.jb i.db _ v.last u _ HT1.out.at'.jour HOK.out.sup.geo HUB.out.1 (by have := HUB.out.2; omega)).mono ?_
  rintro e w2 ⟨rfl, hb2⟩
  have HT2 := Lib.hid (HT1.out.below hb2)
  clear hb2
  go_wp2_with fail
  refine (jwrite_walk i.jb (4 + u) block _).mono ?_
  rintro e w3 ⟨⟨p3, p4, p5, rfl, hst, g3, g4, g5⟩, hb3⟩
  have HT3 := Lib.hid (HT2.out.below hb3)
  have HST := Lib.hid hst
  have HLT := Lib.hid (fun x (hx : x ∈ v.d.foot i.db) => HT2.out.at'.disk.lt x hx)
  have HGE := Lib.hid (And.intro g3 (And.intro g4 g5))
  have HSZ := Lib.hid hb3.size
  clear hb3 hst g3 g4 g5
  go_wp2_with fail
  obtain ⟨w4, hw4⟩ : ∃ w4, w4 = w3.alloc (Obj.cells #[.func (.func 237) #[] #[.pointer (some ⟨p3, 0, none⟩), .pointer (some ⟨p4, 0, none⟩), .pointer (some ⟨p5, 0, none⟩)]] 167) := ⟨_, rfl⟩
  rw [← hw4]
  have hb4 : Below w3.heap.size w3 w4 := by rw [hw4]; exact (Below.refl _ _).alloc (Nat.le_refl _) _
  have hrow : Blk w4 w3.heap.size [.func (.func 237) #[] #[.pointer (some ⟨p3, 0, none⟩), .pointer (some ⟨p4, 0, none⟩), .pointer (some ⟨p5, 0, none⟩)]] 167 := by rw [hw4]; exact Blk.new w3 _ _
  have HROW := Lib.hid hrow
  have HT4 := Lib.hid (HT3.out.below hb4)
  have HST4 := Lib.hid (HST.out.below hb4)
  clear hrow hb4 hw4
  refine (jstepsW_walk i.jb i.db w3.heap.size 1 v.last.geo.blocks.toNat v.used.toNat p3 p4 p5 (4 + u) block 167 v.d _ HT4.out.at'.disk HROW.out (HT4.out.at'.jour.cell (i := 1) rfl) HT4.out.at'.jour.lt HST4.out (by
    intro x hx hm
    have hlt := HLT.out x hm
    have h1 := HGE.out
    have h2 := HSZ.out
    rcases hx with rfl | rfl | rfl | rfl | rfl
    · omega
    · exact (HT4.out.at'.jour.ty.notin HT4.out.at'.disk.tyIn (by decide)) hm
    · omega
    · omega
    · omega) HOK.out.calm (by have := HOK.out.few; omega) HOK.out.blocks ⟨by have := HUB.out.1; omega, by have := HUB.out.2; omega⟩ HB.out).mono ?_
  rintro e w5 ⟨rfl, d', ⟨cv, hd'⟩, ht5⟩
  subst hd'
  have HT5 := Lib.hid (HT4.out.trans (HT4.out.at'.disk_to ht5))
  clear ht5
  go_wp2_with fail
  go_ret2
  exact ⟨rfl, cv, HT5.out⟩
end Go.Proofs.YtppdboadjefieaaGreat

namespace Go.Proofs.YtppdboadjefieaaGreat
open Go Go.RowKit
set_option maxRecDepth 100000

set_option maxHeartbeats 2000000 in
theorem superNext_walk (s : SupD) (w : World) (hs : SupOk s) (hg : s.gen ≠ 1152921504606846976) :
    Calls Tryz.prog 144 #[s.v] w fun e w' => e = .returned (.tuple #[({ s with gen := s.gen + 1 } : SupD).v, .int .i64 0]) ∧ Below w.heap.size w w' := by
  have HS := Lib.hid hs
  have hq : (s.gen == 1152921504606846976) = false := beq_eq_false_iff_ne.2 hg
  have hb : s.gen + 1 ≤ 1152921504606846976 := by have := hs.g1; omega
  have hb0 : 0 ≤ s.gen := by have := hs.g0; omega
  obtain ⟨gen, tail, epoch, clock, ⟨blocks, lbas, first⟩⟩ := s
  simp only at hq hb hb0
  have HHB := Lib.hid (And.intro hb hb0)
  have HQ := Lib.hid hq
  have hw : wrap64 (gen + 1) = gen + 1 := by unfold wrap64; omega
  clear hs hg hb hb0 hq
  go_enter Tryz.func144, Tryz.ntmps144
  go_wp2_with (first
    | ((with_reducible refine wpList_box_new 135 (.tmp 0) (SupD.cells ⟨gen, tail, epoch, clock, ⟨blocks, lbas, first⟩⟩) (some 1) ?hgd ?ho ?hd ?hx ?_); (case hgd | ho | hd | hx => rfl); (intro b1 w1 l1 B1 e1 z1))
    | ((with_reducible refine wpList_alloc_new 135 _ zeroSup (some 2) ?hgd ?ho ?hd ?_); (case hgd | ho | hd => rfl); (intro b2 w2 l2 B2 e2 z2; have B1' := B1.below e2 (Nat.lt_of_lt_of_le z1 l2)))
    | ((with_reducible refine wpList_load_blk 135 (.tmp 1) b1 (SupD.cells ⟨gen, tail, epoch, clock, ⟨blocks, lbas, first⟩⟩) 135 _ B1' Tryz.underlying135 rfl sizeSup ?hgd ?ho ?hx ?_); (case hgd | ho | hx => rfl))
    | fail)
  refine (supCheck_walk ⟨gen, tail, epoch, clock, ⟨blocks, lbas, first⟩⟩ _ HS.out).mono ?_
  rintro e w3 ⟨rfl, hb3⟩
  have HB1 := Lib.hid (B1'.below hb3 B1'.lt)
  have HB2 := Lib.hid (B2.below hb3 B2.lt)
  have HL := Lib.hid (show w.heap.size ≤ b1 ∧ b1 < b2 from ⟨l1, by omega⟩)
  have HBE := Lib.hid (((e1.mono l1).trans (e2.mono (Nat.le_trans l1 (Nat.le_trans (Nat.le_of_lt z1) l2)))).trans (hb3.mono (by omega)))
  have c0 := HB1.out.cell (i := 0) rfl
  have f0 := HB1.out.free 0
  have hq := HQ.out
  clear hb3 B1 B1' B2 e1 e2 z1 z2 l1 l2
  go_upto_region 7 with fail
  obtain ⟨w4, hw4⟩ : ∃ w4, w3.setCell ⟨b1, 0, none⟩ (.int .i64 (gen + 1)) = w4 := ⟨_, rfl⟩
  have HB1b := Lib.hid (show Blk w4 b1 (SupD.cells ⟨gen + 1, tail, epoch, clock, ⟨blocks, lbas, first⟩⟩) 135 from by rw [← hw4]; exact (HB1.out.set 0 _).ext rfl)
  have HB2b := Lib.hid (show Blk w4 b2 SupD.zero.cells 135 from by rw [← hw4]; exact HB2.out.set_other (by show b2 ≠ b1; have := HL.out; omega) _)
  have HBEb := Lib.hid (show Below w.heap.size w w4 from by rw [← hw4]; exact HBE.out.setCell (p := ⟨b1, 0, none⟩) HL.out.1 _)
  rw [hw4]
  clear hw4 c0 f0 hq
  go_wp2_with (first
    | ((with_reducible refine wpList_load_blk 135 (.tmp 1) b1 (SupD.cells ⟨gen + 1, tail, epoch, clock, ⟨blocks, lbas, first⟩⟩) 135 _ HB1b.out Tryz.underlying135 rfl sizeSup ?hgd ?ho ?hx ?_); (case hgd | ho | hx => rfl))
    | ((with_reducible refine wpList_store_new 135 (.tmp 2) (.tmp 19) b2 SupD.zero.cells (SupD.cells ⟨gen + 1, tail, epoch, clock, ⟨blocks, lbas, first⟩⟩) 135 HB2b.out rfl sizeSup (sup_one _) ?hgd ?ho ?hx ?hy ?_); (case hgd | ho | hx | hy => rfl); (intro w9 B9 o9))
    | fail)
  (try simp only [Exit.inBlock, Exit.then]); refine bodyPost_ret (results_cell1t rfl _ _ B9.range rfl Tryz.underlying135 rfl sizeSup) rfl ⟨rfl, o9.below HBEb.out (by have := HL.out; omega)⟩
theorem jtime_walk (i : VolI) (v : VolD) (t : Int) (w : World) (h : VolAt w i v) (h0 : v.last.clock ≤ t) (h1 : t ≤ 1099511627776) :
    Calls Tryz.prog 143 #[.pointer (some ⟨i.jb, 0, none⟩), .int .i64 t] w fun e w' => e = .returned (.bool true) ∧ w = w' := by
  have c5 : w.cell? ⟨i.jb, 5, none⟩ = some (.int .i64 v.last.clock) := h.jour.cell (i := 5) rfl
  go_enter Tryz.func143, Tryz.ntmps143
  go_wp2_with fail
  go_ret
  first | exact ⟨rfl, rfl⟩ | exact ⟨ret_b (by simp; omega), rfl⟩ | exact ⟨ret_b (by simp), rfl⟩
set_option maxHeartbeats 2000000 in
theorem jnext_walk (i : VolI) (v : VolD) (t : Int) (w : World) (h : VolAt w i v) (ok : VolOk v) (hg : v.last.gen ≠ 1152921504606846976) :
    Calls Tryz.prog 152 #[.pointer (some ⟨i.jb, 0, none⟩), .int .i64 t] w fun e w' => e = .returned (.tuple #[(⟨v.last.gen + 1, v.used, v.last.epoch, t, v.last.geo⟩ : SupD).v, .int .i64 0]) ∧ Below w.heap.size w w' := by
  have HN := Lib.hid (fun (wx : World) => superNext_walk v.last wx ok.sup hg)
  have HOK := Lib.hid ok
  have H0 := Lib.hid h
  obtain ⟨⟨gen, tail, epoch, clock, ⟨blocks, lbas, first⟩⟩, hl⟩ : ∃ s, v.last = s := ⟨_, rfl⟩
  have HLA := Lib.hid hl
  have hR : w.rangeAt i.jb 2 (SupD.cells ⟨gen, tail, epoch, clock, ⟨blocks, lbas, first⟩⟩) := by have := jour_sup h.jour; rw [hl] at this; exact this
  have hn : ∀ wx, Calls Tryz.prog 144 #[.agg #[.int .i64 gen, .int .i64 tail, .int .i64 epoch, .int .i64 clock, .int .i64 blocks, .int .i64 lbas, .int .i64 first]] wx fun e w' => e = .returned (.tuple #[.agg #[.int .i64 (gen + 1), .int .i64 tail, .int .i64 epoch, .int .i64 clock, .int .i64 blocks, .int .i64 lbas, .int .i64 first], .int .i64 0]) ∧ Below wx.heap.size wx w' := by
    intro wx
    have := HN.out wx
    rw [hl] at this
    exact this
  have HNN := Lib.hid hn
  rw [hl]
  clear ok hg hl hn h
  go_enter Tryz.func152, Tryz.ntmps152
  go_wp2_with (first
    | ((with_reducible refine wpList_alloc_new 135 _ zeroSup (some 4) ?hgd ?ho ?hd ?_); (case hgd | ho | hd => rfl); (intro b4 w1 l1 B4 e1 z1; have HR1 := Lib.hid (show w1.rangeAt i.jb 2 (SupD.cells ⟨gen, tail, epoch, clock, ⟨blocks, lbas, first⟩⟩) from by have := jour_sup (H0.out.jour.below (e1.mono l1) H0.out.jour.lt); rw [HLA.out] at this; exact this)))
    | ((with_reducible refine wpList_load_met 135 (.tmp 11) i.jb 2 (SupD.cells ⟨gen, tail, epoch, clock, ⟨blocks, lbas, first⟩⟩) _ (some 12) HR1.out Tryz.underlying135 rfl sizeSup ?hg ?ho ?hds ?hx ?_); (case ho | hg | hds | hx => rfl))
    | fail)
  refine (HNN.out _).mono ?_
  rintro e w2 ⟨rfl, hb2⟩
  have HB4 := Lib.hid (B4.below hb2 z1)
  have HL4 := Lib.hid l1
  have HBE2 := Lib.hid ((e1.mono l1).trans (hb2.mono (Nat.le_trans l1 (Nat.le_of_lt z1))))
  clear hb2 B4 e1 z1 l1
  go_upto_region 2 with (first
    | ((with_reducible refine wpList_alloc_new 135 _ zeroSup (some 6) ?hgd ?ho ?hd ?_); (case hgd | ho | hd => rfl); (intro b6 w3 l6 B6 e6 z6))
    | ((with_reducible refine wpList_store_new 135 (.tmp 6) (.tmp 14) b6 SupD.zero.cells (SupD.cells ⟨gen + 1, tail, epoch, clock, ⟨blocks, lbas, first⟩⟩) 135 B6 rfl sizeSup (sup_one _) ?hgd ?ho ?hx ?hy ?_); (case hgd | ho | hx | hy => rfl); (intro w8 B8 o8))
    | fail)
  have HB6 := Lib.hid B8
  have HL6 := Lib.hid (show w.heap.size ≤ b6 ∧ b4 < b6 from ⟨Nat.le_trans HBE2.out.size l6, Nat.lt_of_lt_of_le HB4.out.lt l6⟩)
  have HBE3 := Lib.hid (o8.below (HBE2.out.trans (e6.mono (Nat.le_trans HBE2.out.size l6))) HL6.out.1)
  have HB4b := Lib.hid (o8.blk (HB4.out.below e6 (by have := HB4.out.lt; omega)) (by have := HL6.out; omega))
  have H3 := Lib.hid (H0.out.below HBE3.out)
  clear B6 B8 o8 e6 z6 l6
  have c0 := H3.out.jour.cell (i := 0) rfl
  go_wp2_with fail
  refine (spaceUsed_walk i.sb v.last.geo v.used _ H3.out.space HOK.out.sup.geo).mono ?_
  rintro e w' ⟨rfl, rfl⟩
  have q1 := HB6.out.cell (i := 1) rfl
  have g1 := HB6.out.free 1
  have q3 := HB6.out.cell (i := 3) rfl
  have g3 := HB6.out.free 3
  clear c0
  go_upto_region 5 with fail
  obtain ⟨w9, hw9⟩ : ∃ w9, (w8.setCell ⟨b6, 1, none⟩ (.int .i64 v.used)).setCell ⟨b6, 3, none⟩ (.int .i64 t) = w9 := ⟨_, rfl⟩
  have HB6c := Lib.hid (show Blk w9 b6 (SupD.cells ⟨gen + 1, v.used, epoch, t, ⟨blocks, lbas, first⟩⟩) 135 from by rw [← hw9]; exact ((HB6.out.set 1 _).set 3 _).ext rfl)
  have HB4c := Lib.hid (show Blk w9 b4 SupD.zero.cells 135 from by rw [← hw9]; exact (HB4b.out.set_other (by show b4 ≠ b6; have := HL6.out; omega) _).set_other (by show b4 ≠ b6; have := HL6.out; omega) _)
  have HBE9 := Lib.hid (show Below w.heap.size w w9 from by rw [← hw9]; exact (HBE3.out.setCell (p := ⟨b6, 1, none⟩) HL6.out.1 _).setCell (p := ⟨b6, 3, none⟩) HL6.out.1 _)
  rw [hw9]
  clear hw9 q1 g1 q3 g3
  go_wp2_with (first
    | ((with_reducible refine wpList_load_blk 135 (.tmp 6) b6 (SupD.cells ⟨gen + 1, v.used, epoch, t, ⟨blocks, lbas, first⟩⟩) 135 _ HB6c.out Tryz.underlying135 rfl sizeSup ?hgd ?ho ?hx ?_); (case hgd | ho | hx => rfl))
    | ((with_reducible refine wpList_store_new 135 (.tmp 4) (.tmp 28) b4 SupD.zero.cells (SupD.cells ⟨gen + 1, v.used, epoch, t, ⟨blocks, lbas, first⟩⟩) 135 HB4c.out rfl sizeSup (sup_one _) ?hgd ?ho ?hx ?hy ?_); (case hgd | ho | hx | hy => rfl); (intro w10 B10 o10))
    | fail)
  (try simp only [Exit.inBlock, Exit.then]); refine bodyPost_ret (results_cell1t rfl _ _ B10.range rfl Tryz.underlying135 rfl sizeSup) rfl ⟨rfl, o10.below HBE9.out HL4.out⟩
end Go.Proofs.YtppdboadjefieaaGreat

