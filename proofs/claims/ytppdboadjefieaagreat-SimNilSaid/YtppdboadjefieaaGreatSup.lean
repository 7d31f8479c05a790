/- Superblocks (chapter 10): Check, widths, Put, of a superblock that may be. -/
import Derived.Test.YtppdboadjefieaaGreatGeom
import Derived.Test.YtppdboadjefieaaGreatSlots
namespace Go.Proofs.YtppdboadjefieaaGreat
set_option linter.unusedSimpArgs false
set_option linter.unusedVariables false
open Go Go.RowKit
set_option linter.unusedVariables false
set_option maxRecDepth 100000

theorem sizeSup {s : SupD} : (Tryz.prog.info? 135).map (·.size) = some s.cells.length := by kernel_rfl
theorem sup_one (s : SupD) : ∀ v ∈ s.cells, v.oneCell' = true := by intro v hv; simp [SupD.cells] at hv; rcases hv with rfl | rfl | rfl | rfl | rfl | rfl | rfl <;> rfl
theorem sup_geo {w : World} {b : Nat} {s : SupD} (h : Blk w b s.cells 135) : w.rangeAt b 4 s.geo.cells := by
  intro j v hv
  match j, hv with
  | 0, hv => simp [GeoD.cells] at hv; subst hv; exact h.cell (i := 4) rfl
  | 1, hv => simp [GeoD.cells] at hv; subst hv; exact h.cell (i := 5) rfl
  | 2, hv => simp [GeoD.cells] at hv; subst hv; exact h.cell (i := 6) rfl
  | j + 3, hv => simp [GeoD.cells] at hv
def widths10 : List Int := [8, 4, 4, 8]
theorem supWidths_walk (w : World) :
    Calls Tryz.prog 324 #[] w fun e w' => (∃ v, e = .returned v ∧ IntRow w' v widths10) ∧ Below w.heap.size w w' := by
  go_enter Tryz.func324, Tryz.ntmps324
  go_wp2_with fail
  go_ret
  exact ⟨⟨_, rfl, IntRow.blk (xs := widths10) (Blk.new w (widths10.map (Value.int .i64)) 3) rfl 4⟩, (Below.refl _ _).alloc (Nat.le_refl _) _⟩
theorem supPack {s : SupD} (h : SupOk s) : PackOk widths10 [s.gen, s.tail, s.epoch, s.clock] := by
  obtain ⟨⟨k1, k2, k3, k4, k5, k6⟩, h1, h2, h3, h4, h5, h6, h7, h8⟩ := h
  have p4 : (256 : Nat) ^ 4 = 4294967296 := rfl
  have p8 : (256 : Nat) ^ 8 = 18446744073709551616 := rfl
  refine ⟨rfl, fun i a x ha hx => ?_⟩
  match i, ha, hx with
  | 0, ha, hx => simp [widths10] at ha hx; subst ha; subst hx; simp; omega
  | 1, ha, hx => simp [widths10] at ha hx; subst ha; subst hx; simp; omega
  | 2, ha, hx => simp [widths10] at ha hx; subst ha; subst hx; simp; omega
  | 3, ha, hx => simp [widths10] at ha hx; subst ha; subst hx; simp; omega
theorem supL_pack (s : SupD) : packL widths10 [s.gen, s.tail, s.epoch, s.clock] = beBytes 8 s.gen.toNat ++ beBytes 4 s.tail.toNat ++ beBytes 4 s.epoch.toNat ++ beBytes 8 s.clock.toNat := by simp [packL, widths10]
set_option maxHeartbeats 4000000 in
theorem supCheck_walk (s : SupD) (w : World) (hs : SupOk s) :
    Calls Tryz.prog 233 #[s.v] w fun e w' => e = .returned (.int .i64 0) ∧ Below w.heap.size w w' := by
  obtain ⟨gen, tail, epoch, clock, ⟨blocks, lbas, first⟩⟩ := s
  obtain ⟨hg, h1, h2, h3, h4, h5, h6, h7, h8⟩ := hs
  simp only at hg h1 h2 h3 h4 h5 h6 h7 h8
  have HG := Lib.hid hg
  have d1 : decide (gen < 1) = false := decide_eq_false (by omega)
  have d2 : decide (1152921504606846976 < gen) = false := decide_eq_false (by omega)
  have d4 : ¬ (blocks - 4 : Int) < tail := by omega
  have d5 : ¬ (4294967295 : Int) < epoch := by omega
  have d6 : ¬ (1099511627776 : Int) < clock := by omega
  have d3 : decide (tail < 0) = false := decide_eq_false (by omega)
  clear hg
  go_enter Tryz.func233, Tryz.ntmps233
  go_wp2_with (first
    | ((with_reducible refine wpList_box_new 135 (.tmp 0) (SupD.cells ⟨gen, tail, epoch, clock, ⟨blocks, lbas, first⟩⟩) (some 1) ?hgd ?ho ?hd ?hx ?_); (case hgd => rfl); (case ho => rfl); (case hd => rfl); (case hx => rfl); (intro b1 w1 l1 B1 e1 z1))
    | ((with_reducible refine wpList_load_met 23 (.tmp 4) b1 4 (GeoD.cells ⟨blocks, lbas, first⟩) _ (some 5) (sup_geo (s := ⟨gen, tail, epoch, clock, ⟨blocks, lbas, first⟩⟩) B1) Tryz.underlying23 rfl sizeGeo ?hg ?ho ?hds ?hx ?_); (case ho => rfl); (case hg => rfl); (case hds => rfl); (case hx => rfl))
    | fail)
  refine (geomCheck_walk ⟨blocks, lbas, first⟩ _ HG.out).mono ?_
  rintro e w2 ⟨rfl, hb2⟩
  have HB2 := Lib.hid (B1.below hb2 z1)
  have HBE2 := Lib.hid ((e1.mono l1).trans (hb2.mono (Nat.le_trans l1 (Nat.le_of_lt z1))))
  clear hb2 B1 e1
  go_upto_region 2 with fail
  refine wp_region_held_drew (S := fun wx => Blk wx b1 (SupD.cells ⟨gen, tail, epoch, clock, ⟨blocks, lbas, first⟩⟩) 135) (by kernel_rfl) (HB2.out.drew) (fun hHeld => ?_)
  obtain ⟨wd, hwd⟩ : ∃ wd, wd = w2.drew := ⟨_, rfl⟩
  have HBd := Lib.hid (show Blk wd b1 _ 135 from by rw [hwd]; exact HB2.out.drew)
  have HBEd : Hid (Below w.heap.size w wd) := Lib.hid (by rw [hwd]; exact HBE2.out.drew)
  rw [← hwd]
  rw [← hwd] at hHeld
  clear hwd
  refine wpAnyH_take (i := 0) (v := ?_) rfl (by kernel_rfl) (by kernel_rfl) (by kernel_rfl) (fun _ _ _ h => h) (Or.inl ⟨by rfl, ?_⟩) (by assumption) ?_
  rotate_left
  · intro w hSw; (try dsimp only at hSw); (have a0 := hSw.cell (i := 0) rfl); (have a1 := hSw.cell (i := 1) rfl); (have a2 := hSw.cell (i := 2) rfl); (have a3 := hSw.cell (i := 3) rfl); go_simp; first | done | with_reducible rfl
  (try simp only [Act.put, Array.getInternal_eq_getElem, List.getElem_toArray, List.getElem_cons_succ, List.getElem_cons_zero, List.setIfInBounds_toArray, List.set_cons_zero, List.set_cons_succ])
  refine wpAnyH_take (i := 1) (v := ?_) rfl (by kernel_rfl) (by kernel_rfl) (by kernel_rfl) (fun _ _ _ h => h) (Or.inl ⟨by rfl, ?_⟩) (by assumption) ?_
  rotate_left
  · intro w hSw; (try dsimp only at hSw); (have a0 := hSw.cell (i := 0) rfl); (have a1 := hSw.cell (i := 1) rfl); (have a2 := hSw.cell (i := 2) rfl); (have a3 := hSw.cell (i := 3) rfl); go_simp; first | done | with_reducible rfl
  (try simp only [Act.put, Array.getInternal_eq_getElem, List.getElem_toArray, List.getElem_cons_succ, List.getElem_cons_zero, List.setIfInBounds_toArray, List.set_cons_zero, List.set_cons_succ])
  refine wpAnyH_take (i := 2) (v := ?_) rfl (by kernel_rfl) (by kernel_rfl) (by kernel_rfl) (fun _ _ _ h => h) (Or.inl ⟨by rfl, ?_⟩) (by assumption) ?_
  rotate_left
  · intro w hSw; (try dsimp only at hSw); (have a0 := hSw.cell (i := 0) rfl); (have a1 := hSw.cell (i := 1) rfl); (have a2 := hSw.cell (i := 2) rfl); (have a3 := hSw.cell (i := 3) rfl); go_simp; first | done | with_reducible rfl
  (try simp only [Act.put, Array.getInternal_eq_getElem, List.getElem_toArray, List.getElem_cons_succ, List.getElem_cons_zero, List.setIfInBounds_toArray, List.set_cons_zero, List.set_cons_succ])
  refine wpAnyH_take (i := 3) (v := ?_) rfl (by kernel_rfl) (by kernel_rfl) (by kernel_rfl) (fun _ _ _ h => h) (Or.inl ⟨by rfl, ?_⟩) (by assumption) ?_
  rotate_left
  · intro w hSw; (try dsimp only at hSw); (have a0 := hSw.cell (i := 0) rfl); (have a1 := hSw.cell (i := 1) rfl); (have a2 := hSw.cell (i := 2) rfl); (have a3 := hSw.cell (i := 3) rfl); go_simp; first | done | with_reducible rfl
  (try simp only [Act.put, Array.getInternal_eq_getElem, List.getElem_toArray, List.getElem_cons_succ, List.getElem_cons_zero, List.setIfInBounds_toArray, List.set_cons_zero, List.set_cons_succ])
  refine wpAnyH_take (i := 4) (v := ?_) rfl (by kernel_rfl) (by kernel_rfl) (by kernel_rfl) (fun _ _ _ h => h) (Or.inl ⟨by rfl, ?_⟩) (by assumption) ?_
  rotate_left
  · intro w hSw; (try dsimp only at hSw); (have a0 := hSw.cell (i := 0) rfl); (have a1 := hSw.cell (i := 1) rfl); (have a2 := hSw.cell (i := 2) rfl); (have a3 := hSw.cell (i := 3) rfl); go_simp; first | done | with_reducible rfl
  (try simp only [Act.put, Array.getInternal_eq_getElem, List.getElem_toArray, List.getElem_cons_succ, List.getElem_cons_zero, List.setIfInBounds_toArray, List.set_cons_zero, List.set_cons_succ])
  refine wpAnyH_take (i := 5) (v := ?_) rfl (by kernel_rfl) (by kernel_rfl) (by kernel_rfl) (fun _ _ _ h => h) (Or.inl ⟨by rfl, ?_⟩) (by assumption) ?_
  rotate_left
  · intro w hSw; (try dsimp only at hSw); (have a0 := hSw.cell (i := 0) rfl); (have a1 := hSw.cell (i := 1) rfl); (have a2 := hSw.cell (i := 2) rfl); (have a3 := hSw.cell (i := 3) rfl); go_simp; first | done | with_reducible rfl
  (try simp only [Act.put, Array.getInternal_eq_getElem, List.getElem_toArray, List.getElem_cons_succ, List.getElem_cons_zero, List.setIfInBounds_toArray, List.set_cons_zero, List.set_cons_succ])
  refine wpAnyH_take (i := 6) (v := ?_) rfl (by kernel_rfl) (by kernel_rfl) (by kernel_rfl) (fun _ _ _ h => h) (Or.inl ⟨by rfl, ?_⟩) (by assumption) ?_
  rotate_left
  · intro w hSw; (try dsimp only at hSw); (have a0 := hSw.cell (i := 0) rfl); (have a1 := hSw.cell (i := 1) rfl); (have a2 := hSw.cell (i := 2) rfl); (have a3 := hSw.cell (i := 3) rfl); go_simp; first | done | with_reducible rfl
  (try simp only [Act.put, Array.getInternal_eq_getElem, List.getElem_toArray, List.getElem_cons_succ, List.getElem_cons_zero, List.setIfInBounds_toArray, List.set_cons_zero, List.set_cons_succ])
  refine wpAnyH_take (i := 7) (v := ?_) rfl (by kernel_rfl) (by kernel_rfl) (by kernel_rfl) (fun _ _ _ h => h) (Or.inl ⟨by rfl, ?_⟩) (by assumption) ?_
  rotate_left
  · intro w hSw; (try dsimp only at hSw); (have a0 := hSw.cell (i := 0) rfl); (have a1 := hSw.cell (i := 1) rfl); (have a2 := hSw.cell (i := 2) rfl); (have a3 := hSw.cell (i := 3) rfl); go_simp; first | done | with_reducible rfl
  (try simp only [Act.put, Array.getInternal_eq_getElem, List.getElem_toArray, List.getElem_cons_succ, List.getElem_cons_zero, List.setIfInBounds_toArray, List.set_cons_zero, List.set_cons_succ])
  refine wpAnyH_take (i := 8) (v := ?_) rfl (by kernel_rfl) (by kernel_rfl) (by kernel_rfl) (fun _ _ _ h => h) (Or.inl ⟨by rfl, ?_⟩) (by assumption) ?_
  rotate_left
  · intro w hSw; (try dsimp only at hSw); (have a0 := hSw.cell (i := 0) rfl); (have a1 := hSw.cell (i := 1) rfl); (have a2 := hSw.cell (i := 2) rfl); (have a3 := hSw.cell (i := 3) rfl); go_simp; first | done | with_reducible rfl
  (try simp only [Act.put, Array.getInternal_eq_getElem, List.getElem_toArray, List.getElem_cons_succ, List.getElem_cons_zero, List.setIfInBounds_toArray, List.set_cons_zero, List.set_cons_succ])
  refine wpAnyH_take (i := 9) (v := ?_) rfl (by kernel_rfl) (by kernel_rfl) (by kernel_rfl) (fun _ _ _ h => h) (Or.inl ⟨by rfl, ?_⟩) (by assumption) ?_
  rotate_left
  · intro w hSw; (try dsimp only at hSw); (have a0 := hSw.cell (i := 0) rfl); (have a1 := hSw.cell (i := 1) rfl); (have a2 := hSw.cell (i := 2) rfl); (have a3 := hSw.cell (i := 3) rfl); go_simp; first | done | with_reducible rfl
  (try simp only [Act.put, Array.getInternal_eq_getElem, List.getElem_toArray, List.getElem_cons_succ, List.getElem_cons_zero, List.setIfInBounds_toArray, List.set_cons_zero, List.set_cons_succ])
  refine wpAnyH_take (i := 10) (v := ?_) rfl (by kernel_rfl) (by kernel_rfl) (by kernel_rfl) (fun _ _ _ h => h) (Or.inl ⟨by rfl, ?_⟩) (by assumption) ?_
  rotate_left
  · intro w hSw; (try dsimp only at hSw); (have a0 := hSw.cell (i := 0) rfl); (have a1 := hSw.cell (i := 1) rfl); (have a2 := hSw.cell (i := 2) rfl); (have a3 := hSw.cell (i := 3) rfl); go_simp; first | done | with_reducible rfl
  (try simp only [Act.put, Array.getInternal_eq_getElem, List.getElem_toArray, List.getElem_cons_succ, List.getElem_cons_zero, List.setIfInBounds_toArray, List.set_cons_zero, List.set_cons_succ])
  refine wpAnyH_take (i := 11) (v := ?_) rfl (by kernel_rfl) (by kernel_rfl) (by kernel_rfl) (fun _ _ _ h => h) (Or.inl ⟨by rfl, ?_⟩) (by assumption) ?_
  rotate_left
  · intro w hSw; (try dsimp only at hSw); (have a0 := hSw.cell (i := 0) rfl); (have a1 := hSw.cell (i := 1) rfl); (have a2 := hSw.cell (i := 2) rfl); (have a3 := hSw.cell (i := 3) rfl); go_simp; first | done | with_reducible rfl
  (try simp only [Act.put, Array.getInternal_eq_getElem, List.getElem_toArray, List.getElem_cons_succ, List.getElem_cons_zero, List.setIfInBounds_toArray, List.set_cons_zero, List.set_cons_succ])
  refine wpAnyH_take (i := 12) (v := ?_) rfl (by kernel_rfl) (by kernel_rfl) (by kernel_rfl) (fun _ _ _ h => h) (Or.inl ⟨by rfl, ?_⟩) (by assumption) ?_
  rotate_left
  · intro w hSw; (try dsimp only at hSw); (have a0 := hSw.cell (i := 0) rfl); (have a1 := hSw.cell (i := 1) rfl); (have a2 := hSw.cell (i := 2) rfl); (have a3 := hSw.cell (i := 3) rfl); go_simp; first | done | with_reducible rfl
  (try simp only [Act.put, Array.getInternal_eq_getElem, List.getElem_toArray, List.getElem_cons_succ, List.getElem_cons_zero, List.setIfInBounds_toArray, List.set_cons_zero, List.set_cons_succ])
  refine wpAnyH_take (i := 13) (v := ?_) rfl (by kernel_rfl) (by kernel_rfl) (by kernel_rfl) (fun _ _ _ h => h) (Or.inl ⟨by rfl, ?_⟩) (by assumption) ?_
  rotate_left
  · intro w hSw; (try dsimp only at hSw); (have a0 := hSw.cell (i := 0) rfl); (have a1 := hSw.cell (i := 1) rfl); (have a2 := hSw.cell (i := 2) rfl); (have a3 := hSw.cell (i := 3) rfl); go_simp; first | done | with_reducible rfl
  (try simp only [Act.put, Array.getInternal_eq_getElem, List.getElem_toArray, List.getElem_cons_succ, List.getElem_cons_zero, List.setIfInBounds_toArray, List.set_cons_zero, List.set_cons_succ])
  refine wpAnyH_take (i := 14) (v := ?_) rfl (by kernel_rfl) (by kernel_rfl) (by kernel_rfl) (fun _ _ _ h => h) (Or.inl ⟨by rfl, ?_⟩) (by assumption) ?_
  rotate_left
  · intro w hSw; (try dsimp only at hSw); (have a0 := hSw.cell (i := 0) rfl); (have a1 := hSw.cell (i := 1) rfl); (have a2 := hSw.cell (i := 2) rfl); (have a3 := hSw.cell (i := 3) rfl); go_simp; first | done | with_reducible rfl
  (try simp only [Act.put, Array.getInternal_eq_getElem, List.getElem_toArray, List.getElem_cons_succ, List.getElem_cons_zero, List.setIfInBounds_toArray, List.set_cons_zero, List.set_cons_succ])
  refine wpAnyH_take (i := 15) (v := ?_) rfl (by kernel_rfl) (by kernel_rfl) (by kernel_rfl) (fun _ _ _ h => h) (Or.inl ⟨by rfl, ?_⟩) (by assumption) ?_
  rotate_left
  · intro w hSw; (try dsimp only at hSw); (have a0 := hSw.cell (i := 0) rfl); (have a1 := hSw.cell (i := 1) rfl); (have a2 := hSw.cell (i := 2) rfl); (have a3 := hSw.cell (i := 3) rfl); go_simp; first | done | with_reducible rfl
  (try simp only [Act.put, Array.getInternal_eq_getElem, List.getElem_toArray, List.getElem_cons_succ, List.getElem_cons_zero, List.setIfInBounds_toArray, List.set_cons_zero, List.set_cons_succ])
  refine wpAnyH_take (i := 16) (v := ?_) rfl (by kernel_rfl) (by kernel_rfl) (by kernel_rfl) (fun _ _ _ h => h) (Or.inl ⟨by rfl, ?_⟩) (by assumption) ?_
  rotate_left
  · intro w hSw; (try dsimp only at hSw); (have a0 := hSw.cell (i := 0) rfl); (have a1 := hSw.cell (i := 1) rfl); (have a2 := hSw.cell (i := 2) rfl); (have a3 := hSw.cell (i := 3) rfl); go_simp; first | done | with_reducible rfl
  (try simp only [Act.put, Array.getInternal_eq_getElem, List.getElem_toArray, List.getElem_cons_succ, List.getElem_cons_zero, List.setIfInBounds_toArray, List.set_cons_zero, List.set_cons_succ])
  refine wpAnyH_take (i := 17) (v := .agg (GeoD.cells ⟨blocks, lbas, first⟩).toArray) rfl (by kernel_rfl) (by kernel_rfl) (by kernel_rfl) (fun _ _ _ h => h) (yieldsIf_load_mid (by rfl) 23 (.tmp 25) rfl b1 4 rfl (GeoD.cells ⟨blocks, lbas, first⟩) _ (fun w h => sup_geo (s := ⟨gen, tail, epoch, clock, ⟨blocks, lbas, first⟩⟩) h) Tryz.underlying23 rfl sizeGeo) (by assumption) ?_
  (try simp only [Act.put, Array.getInternal_eq_getElem, List.getElem_toArray, List.getElem_cons_succ, List.getElem_cons_zero, List.setIfInBounds_toArray, List.set_cons_zero, List.set_cons_succ])
  refine wpAnyH_ready (rs := [18]) (by kernel_rfl) (by simp) ?_
  refine AllReadyH.cons rfl (fun K hK => ?_) AllReadyH.nil
  go_simp
  refine (geomData_walk ⟨blocks, lbas, first⟩ _ HG.out).mono ?_
  rintro e w3 ⟨rfl, hb3⟩
  have HB3 := Lib.hid (HBd.out.below hb3 HBd.out.lt)
  have HBE3 := Lib.hid (HBEd.out.trans (hb3.mono HBEd.out.size))
  clear hb3
  (try go_wp2_with fail)
  refine hK.out _ _ (HB3.out) (fun hHeld2 => ?_)
  clear hK K hHeld
  have hHeld := hHeld2
  clear hHeld2
  (try simp only [Act.put, Array.getInternal_eq_getElem, List.getElem_toArray, List.getElem_cons_succ, List.getElem_cons_zero, List.setIfInBounds_toArray, List.set_cons_zero, List.set_cons_succ])
  refine wpAnyH_take (i := 19) (v := ?_) rfl (by kernel_rfl) (by kernel_rfl) (by kernel_rfl) (fun _ _ _ h => h) (Or.inl ⟨by rfl, ?_⟩) (by assumption) ?_
  rotate_left
  · intro w hSw; (try dsimp only at hSw); (have a0 := hSw.cell (i := 0) rfl); (have a1 := hSw.cell (i := 1) rfl); (have a2 := hSw.cell (i := 2) rfl); (have a3 := hSw.cell (i := 3) rfl); go_simp; first | done | with_reducible rfl
  (try simp only [Act.put, Array.getInternal_eq_getElem, List.getElem_toArray, List.getElem_cons_succ, List.getElem_cons_zero, List.setIfInBounds_toArray, List.set_cons_zero, List.set_cons_succ])
  refine wpAnyH_take (i := 20) (v := ?_) rfl (by kernel_rfl) (by kernel_rfl) (by kernel_rfl) (fun _ _ _ h => h) (Or.inl ⟨by rfl, ?_⟩) (by assumption) ?_
  rotate_left
  · intro w hSw; (try dsimp only at hSw); (have a0 := hSw.cell (i := 0) rfl); (have a1 := hSw.cell (i := 1) rfl); (have a2 := hSw.cell (i := 2) rfl); (have a3 := hSw.cell (i := 3) rfl); go_simp; first | done | with_reducible rfl
  (try simp only [Act.put, Array.getInternal_eq_getElem, List.getElem_toArray, List.getElem_cons_succ, List.getElem_cons_zero, List.setIfInBounds_toArray, List.set_cons_zero, List.set_cons_succ])
  refine wpAnyH_take (i := 21) (v := ?_) rfl (by kernel_rfl) (by kernel_rfl) (by kernel_rfl) (fun _ _ _ h => h) (Or.inl ⟨by rfl, ?_⟩) (by assumption) ?_
  rotate_left
  · intro w hSw; (try dsimp only at hSw); (have a0 := hSw.cell (i := 0) rfl); (have a1 := hSw.cell (i := 1) rfl); (have a2 := hSw.cell (i := 2) rfl); (have a3 := hSw.cell (i := 3) rfl); go_simp; first | done | with_reducible rfl
  (try simp only [Act.put, Array.getInternal_eq_getElem, List.getElem_toArray, List.getElem_cons_succ, List.getElem_cons_zero, List.setIfInBounds_toArray, List.set_cons_zero, List.set_cons_succ])
  refine wpAnyH_done (by kernel_rfl) ?_ _
  have q2 := HB3.out.cell (i := 2) rfl
  have q3 := HB3.out.cell (i := 3) rfl
  have q6 := HB3.out.cell (i := 6) rfl
  go_wp2_with fail
  go_ret
  exact ⟨rfl, HBE3.out⟩
set_option maxHeartbeats 4000000 in
theorem supPut_walk (s : SupD) (w : World) (hs : SupOk s) :
    Calls Tryz.prog 242 #[s.v] w fun e w' => ∃ r, e = .returned (.tuple #[.string r, .int .i64 0]) ∧ Txt r (supL s) ∧ Below w.heap.size w w' := by
  go_enter Tryz.func242, Tryz.ntmps242
  go_wp2_with (first
    | ((with_reducible refine wpList_box_new 135 (.tmp 0) s.cells (some 1) ?hgd ?ho ?hd ?hx ?_); (case hgd => rfl); (case ho => rfl); (case hd => rfl); (case hx => rfl); (intro b1 w1 l1 B1 e1 z1))
    | ((with_reducible refine wpList_load_met 135 (.tmp 1) b1 0 s.cells _ (some 10) B1.range Tryz.underlying135 rfl sizeSup ?hg ?ho ?hds ?hx ?_); (case ho => rfl); (case hg => rfl); (case hds => rfl); (case hx => rfl))
    | fail)
  refine (supCheck_walk s _ hs).mono ?_
  rintro e w2 ⟨rfl, hb2⟩
  have HB2 := Lib.hid (B1.below hb2 z1)
  have HBE2 := Lib.hid ((e1.mono l1).trans (hb2.mono (Nat.le_trans l1 (Nat.le_of_lt z1))))
  clear hb2 B1 e1
  go_upto_region 4 with fail
  refine wp_region_held_drew (S := fun wx => Blk wx b1 s.cells 135) (by kernel_rfl) (HB2.out.drew) (fun hHeld => ?_)
  obtain ⟨wd, hwd⟩ : ∃ wd, wd = w2.drew := ⟨_, rfl⟩
  have HBwd := Lib.hid (show Blk wd b1 s.cells 135 from by rw [hwd]; exact HB2.out.drew)
  have HBEwd : Hid (Below w.heap.size w wd) := Lib.hid (by rw [hwd]; exact HBE2.out.drew)
  rw [← hwd]
  rw [← hwd] at hHeld
  clear hwd
  refine wpAnyH_take (i := 1) (v := ?_) rfl (by kernel_rfl) (by kernel_rfl) (by kernel_rfl) (fun _ _ _ h => h) (Or.inl ⟨by rfl, ?_⟩) (by assumption) ?_
  rotate_left
  · intro w hSw; (try dsimp only at hSw); (have a0 := hSw.cell (i := 0) rfl); (have a1 := hSw.cell (i := 1) rfl); (have a2 := hSw.cell (i := 2) rfl); (have a3 := hSw.cell (i := 3) rfl); go_simp; first | done | with_reducible rfl
  (try simp only [Act.put, Array.getInternal_eq_getElem, List.getElem_toArray, List.getElem_cons_succ, List.getElem_cons_zero, List.setIfInBounds_toArray, List.set_cons_zero, List.set_cons_succ])
  refine wpAnyH_take (i := 2) (v := ?_) rfl (by kernel_rfl) (by kernel_rfl) (by kernel_rfl) (fun _ _ _ h => h) (Or.inl ⟨by rfl, ?_⟩) (by assumption) ?_
  rotate_left
  · intro w hSw; (try dsimp only at hSw); (have a0 := hSw.cell (i := 0) rfl); (have a1 := hSw.cell (i := 1) rfl); (have a2 := hSw.cell (i := 2) rfl); (have a3 := hSw.cell (i := 3) rfl); go_simp; first | done | with_reducible rfl
  (try simp only [Act.put, Array.getInternal_eq_getElem, List.getElem_toArray, List.getElem_cons_succ, List.getElem_cons_zero, List.setIfInBounds_toArray, List.set_cons_zero, List.set_cons_succ])
  refine wpAnyH_take (i := 3) (v := ?_) rfl (by kernel_rfl) (by kernel_rfl) (by kernel_rfl) (fun _ _ _ h => h) (Or.inl ⟨by rfl, ?_⟩) (by assumption) ?_
  rotate_left
  · intro w hSw; (try dsimp only at hSw); (have a0 := hSw.cell (i := 0) rfl); (have a1 := hSw.cell (i := 1) rfl); (have a2 := hSw.cell (i := 2) rfl); (have a3 := hSw.cell (i := 3) rfl); go_simp; first | done | with_reducible rfl
  (try simp only [Act.put, Array.getInternal_eq_getElem, List.getElem_toArray, List.getElem_cons_succ, List.getElem_cons_zero, List.setIfInBounds_toArray, List.set_cons_zero, List.set_cons_succ])
  refine wpAnyH_take (i := 4) (v := ?_) rfl (by kernel_rfl) (by kernel_rfl) (by kernel_rfl) (fun _ _ _ h => h) (Or.inl ⟨by rfl, ?_⟩) (by assumption) ?_
  rotate_left
  · intro w hSw; (try dsimp only at hSw); (have a0 := hSw.cell (i := 0) rfl); (have a1 := hSw.cell (i := 1) rfl); (have a2 := hSw.cell (i := 2) rfl); (have a3 := hSw.cell (i := 3) rfl); go_simp; first | done | with_reducible rfl
  (try simp only [Act.put, Array.getInternal_eq_getElem, List.getElem_toArray, List.getElem_cons_succ, List.getElem_cons_zero, List.setIfInBounds_toArray, List.set_cons_zero, List.set_cons_succ])
  refine wpAnyH_take (i := 5) (v := ?_) rfl (by kernel_rfl) (by kernel_rfl) (by kernel_rfl) (fun _ _ _ h => h) (Or.inl ⟨by rfl, ?_⟩) (by assumption) ?_
  rotate_left
  · intro w hSw; (try dsimp only at hSw); (have a0 := hSw.cell (i := 0) rfl); (have a1 := hSw.cell (i := 1) rfl); (have a2 := hSw.cell (i := 2) rfl); (have a3 := hSw.cell (i := 3) rfl); go_simp; first | done | with_reducible rfl
  (try simp only [Act.put, Array.getInternal_eq_getElem, List.getElem_toArray, List.getElem_cons_succ, List.getElem_cons_zero, List.setIfInBounds_toArray, List.set_cons_zero, List.set_cons_succ])
  refine wpAnyH_take (i := 6) (v := ?_) rfl (by kernel_rfl) (by kernel_rfl) (by kernel_rfl) (fun _ _ _ h => h) (Or.inl ⟨by rfl, ?_⟩) (by assumption) ?_
  rotate_left
  · intro w hSw; (try dsimp only at hSw); (have a0 := hSw.cell (i := 0) rfl); (have a1 := hSw.cell (i := 1) rfl); (have a2 := hSw.cell (i := 2) rfl); (have a3 := hSw.cell (i := 3) rfl); go_simp; first | done | with_reducible rfl
  (try simp only [Act.put, Array.getInternal_eq_getElem, List.getElem_toArray, List.getElem_cons_succ, List.getElem_cons_zero, List.setIfInBounds_toArray, List.set_cons_zero, List.set_cons_succ])
  refine wpAnyH_take (i := 7) (v := ?_) rfl (by kernel_rfl) (by kernel_rfl) (by kernel_rfl) (fun _ _ _ h => h) (Or.inl ⟨by rfl, ?_⟩) (by assumption) ?_
  rotate_left
  · intro w hSw; (try dsimp only at hSw); (have a0 := hSw.cell (i := 0) rfl); (have a1 := hSw.cell (i := 1) rfl); (have a2 := hSw.cell (i := 2) rfl); (have a3 := hSw.cell (i := 3) rfl); go_simp; first | done | with_reducible rfl
  (try simp only [Act.put, Array.getInternal_eq_getElem, List.getElem_toArray, List.getElem_cons_succ, List.getElem_cons_zero, List.setIfInBounds_toArray, List.set_cons_zero, List.set_cons_succ])
  refine wpAnyH_take (i := 8) (v := ?_) rfl (by kernel_rfl) (by kernel_rfl) (by kernel_rfl) (fun _ _ _ h => h) (Or.inl ⟨by rfl, ?_⟩) (by assumption) ?_
  rotate_left
  · intro w hSw; (try dsimp only at hSw); (have a0 := hSw.cell (i := 0) rfl); (have a1 := hSw.cell (i := 1) rfl); (have a2 := hSw.cell (i := 2) rfl); (have a3 := hSw.cell (i := 3) rfl); go_simp; first | done | with_reducible rfl
  (try simp only [Act.put, Array.getInternal_eq_getElem, List.getElem_toArray, List.getElem_cons_succ, List.getElem_cons_zero, List.setIfInBounds_toArray, List.set_cons_zero, List.set_cons_succ])
  refine wpAnyH_ready (rs := [0, 9]) (by kernel_rfl) (by simp) ?_
  refine AllReadyH.cons rfl (fun K hK => ?_) (AllReadyH.cons rfl (fun K hK => ?_) AllReadyH.nil)
  · go_simp
    refine (supWidths_walk _).mono ?_
    rintro e wa ⟨⟨vw, rfl, hvw⟩, hb3⟩
    have HBwa := Lib.hid (HBwd.out.below hb3 HBwd.out.lt)
    have HBEwa := Lib.hid (HBEwd.out.trans (hb3.mono HBEwd.out.size))
    have HVWwa := Lib.hid hvw
    skip
    clear hb3 hvw
    (try go_wp2_with fail)
    refine hK.out _ _ (HBwa.out) (fun hHeld2 => ?_)
    clear hK K hHeld
    have hHeld := hHeld2
    clear hHeld2
    (try simp only [Act.put, Array.getInternal_eq_getElem, List.getElem_toArray, List.getElem_cons_succ, List.getElem_cons_zero, List.setIfInBounds_toArray, List.set_cons_zero, List.set_cons_succ])
    refine wpAnyH_ready (rs := [9]) (by kernel_rfl) (by simp) ?_
    refine AllReadyH.cons rfl (fun K hK => ?_) AllReadyH.nil
    go_simp
    obtain ⟨wb, hw4⟩ : ∃ w4, w4 = wa.alloc (Obj.cells #[Value.int IntKind.i64 s.gen, Value.int IntKind.i64 s.tail, Value.int IntKind.i64 s.epoch, Value.int IntKind.i64 s.clock] 3) := ⟨_, rfl⟩
    rw [← hw4]
    have hb4 : Below wa.heap.size wa wb := by rw [hw4]; exact (Below.refl _ _).alloc (Nat.le_refl _) _
    have B4 : Blk wb wa.heap.size [.int .i64 s.gen, .int .i64 s.tail, .int .i64 s.epoch, .int .i64 s.clock] 3 := by rw [hw4]; exact Blk.new wa _ _
    have HGwb := Lib.hid B4
    have HBwb := Lib.hid (HBwa.out.below hb4 HBwa.out.lt)
    have HBEwb := Lib.hid (HBEwa.out.trans (hb4.mono HBEwa.out.size))
    have HVWwb := Lib.hid (HVWwa.out.below hb4 (Nat.le_refl _))
    clear hb4 B4 hw4
    (try go_wp2_with fail)
    refine hK.out _ _ (HBwb.out) (fun hHeld2 => ?_)
    clear hK K hHeld
    have hHeld := hHeld2
    clear hHeld2
    (try simp only [Act.put, Array.getInternal_eq_getElem, List.getElem_toArray, List.getElem_cons_succ, List.getElem_cons_zero, List.setIfInBounds_toArray, List.set_cons_zero, List.set_cons_succ])
    refine wpAnyH_ready (rs := [10]) (by kernel_rfl) (by simp) ?_
    refine AllReadyH.cons rfl (fun K hK => ?_) AllReadyH.nil
    go_simp
    refine (opack_walk _ _ widths10 [s.gen, s.tail, s.epoch, s.clock] _ HVWwb.out (IntRow.blk (xs := [s.gen, s.tail, s.epoch, s.clock]) HGwb.out rfl 4) (by show 0 < 4; decide) (by show 4 ≤ 16; decide) (supPack hs)).mono ?_
    rintro e wp ⟨r, rfl, tr, hb5⟩
    have HBp := Lib.hid (HBwb.out.below hb5 HBwb.out.lt)
    have HBEp := Lib.hid (HBEwb.out.trans (hb5.mono HBEwb.out.size))
    have HTR := Lib.hid (show Txt r (beBytes 8 s.gen.toNat ++ beBytes 4 s.tail.toNat ++ beBytes 4 s.epoch.toNat ++ beBytes 8 s.clock.toNat) from by rw [← supL_pack]; exact tr)
    clear hb5 tr
    (try go_wp2_with fail)
    refine hK.out _ _ (HBp.out) (fun hHeld2 => ?_)
    clear hK K hHeld
    have hHeld := hHeld2
    clear hHeld2
    (try simp only [Act.put, Array.getInternal_eq_getElem, List.getElem_toArray, List.getElem_cons_succ, List.getElem_cons_zero, List.setIfInBounds_toArray, List.set_cons_zero, List.set_cons_succ])
    refine wpAnyH_take (i := 11) (v := ?_) rfl (by kernel_rfl) (by kernel_rfl) (by kernel_rfl) (fun _ _ _ h => h) (Or.inl ⟨by rfl, ?_⟩) (by assumption) ?_
    rotate_left
    · intro w hSw; (try dsimp only at hSw); (have a0 := hSw.cell (i := 0) rfl); (have a1 := hSw.cell (i := 1) rfl); (have a2 := hSw.cell (i := 2) rfl); (have a3 := hSw.cell (i := 3) rfl); go_simp; first | done | with_reducible rfl
    (try simp only [Act.put, Array.getInternal_eq_getElem, List.getElem_toArray, List.getElem_cons_succ, List.getElem_cons_zero, List.setIfInBounds_toArray, List.set_cons_zero, List.set_cons_succ])
    refine wpAnyH_take (i := 12) (v := ?_) rfl (by kernel_rfl) (by kernel_rfl) (by kernel_rfl) (fun _ _ _ h => h) (Or.inl ⟨by rfl, ?_⟩) (by assumption) ?_
    rotate_left
    · intro w hSw; (try dsimp only at hSw); (have a0 := hSw.cell (i := 0) rfl); (have a1 := hSw.cell (i := 1) rfl); (have a2 := hSw.cell (i := 2) rfl); (have a3 := hSw.cell (i := 3) rfl); go_simp; first | done | with_reducible rfl
    (try simp only [Act.put, Array.getInternal_eq_getElem, List.getElem_toArray, List.getElem_cons_succ, List.getElem_cons_zero, List.setIfInBounds_toArray, List.set_cons_zero, List.set_cons_succ])
    refine wpAnyH_take (i := 13) (v := ?_) rfl (by kernel_rfl) (by kernel_rfl) (by kernel_rfl) (fun _ _ _ h => h) (Or.inl ⟨by rfl, ?_⟩) (by assumption) ?_
    rotate_left
    · intro w hSw; (try dsimp only at hSw); (have a0 := hSw.cell (i := 0) rfl); (have a1 := hSw.cell (i := 1) rfl); (have a2 := hSw.cell (i := 2) rfl); (have a3 := hSw.cell (i := 3) rfl); go_simp; first | done | with_reducible rfl
    (try simp only [Act.put, Array.getInternal_eq_getElem, List.getElem_toArray, List.getElem_cons_succ, List.getElem_cons_zero, List.setIfInBounds_toArray, List.set_cons_zero, List.set_cons_succ])
    refine wpAnyH_take (i := 14) (v := ?_) rfl (by kernel_rfl) (by kernel_rfl) (by kernel_rfl) (fun _ _ _ h => h) (Or.inl ⟨by rfl, ?_⟩) (by assumption) ?_
    rotate_left
    · intro w hSw; (try dsimp only at hSw); (have a0 := hSw.cell (i := 0) rfl); (have a1 := hSw.cell (i := 1) rfl); (have a2 := hSw.cell (i := 2) rfl); (have a3 := hSw.cell (i := 3) rfl); go_simp; first | done | with_reducible rfl
    (try simp only [Act.put, Array.getInternal_eq_getElem, List.getElem_toArray, List.getElem_cons_succ, List.getElem_cons_zero, List.setIfInBounds_toArray, List.set_cons_zero, List.set_cons_succ])
    refine wpAnyH_take (i := 15) (v := ?_) rfl (by kernel_rfl) (by kernel_rfl) (by kernel_rfl) (fun _ _ _ h => h) (Or.inl ⟨by rfl, ?_⟩) (by assumption) ?_
    rotate_left
    · intro w hSw; (try dsimp only at hSw); (have a0 := hSw.cell (i := 0) rfl); (have a1 := hSw.cell (i := 1) rfl); (have a2 := hSw.cell (i := 2) rfl); (have a3 := hSw.cell (i := 3) rfl); go_simp; first | done | with_reducible rfl
    (try simp only [Act.put, Array.getInternal_eq_getElem, List.getElem_toArray, List.getElem_cons_succ, List.getElem_cons_zero, List.setIfInBounds_toArray, List.set_cons_zero, List.set_cons_succ])
    refine wpAnyH_done (by kernel_rfl) ?_ _
    go_wp2_with (first
      | ((with_reducible refine wpList_load_met 23 (.tmp 30) b1 4 s.geo.cells _ (some 31) (sup_geo HBp.out) Tryz.underlying23 rfl sizeGeo ?hg ?ho ?hds ?hx ?_); (case ho => rfl); (case hg => rfl); (case hds => rfl); (case hx => rfl))
      | fail)
    refine (geomPut_walk s.geo _ hs.geo).mono ?_
    rintro e w6 ⟨g, rfl, tg, hb6⟩
    have HTG := Lib.hid tg
    have HBE6 := Lib.hid (HBEp.out.trans (hb6.mono HBEp.out.size))
    clear tg hb6
    have hr : r.size = 24 := by rw [HTR.out.size]; simp [beBytes_length]
    have hg : g.size = 12 := by rw [HTG.out.size, geoL_length]
    go_upto_region 7 with fail
    obtain ⟨t, ht⟩ : ∃ t, (⟨#[107, 101, 101, 112, 115, 97, 107, 101, 49]⟩ : ByteArray) ++ r ++ g = t := ⟨_, rfl⟩
    rw [ht]
    have hts : t.size = 45 := by rw [← ht, ByteArray.size_append, ByteArray.size_append, hr, hg]; rfl
    have HTT := Lib.hid (show Txt t (supHead s) by rw [← ht]; exact ((show Txt (⟨#[107, 101, 101, 112, 115, 97, 107, 101, 49]⟩ : ByteArray) markS from rfl).append HTR.out).append HTG.out)
    clear ht hr hg
    go_wp2_with fail
    refine (sum_one t _ _ (by omega)).mono ?_
    rintro e w7 ⟨q, rfl, tq, hb7⟩
    have hq : q.size = 32 := by rw [tq.size, sha_length]
    have HTQ := Lib.hid (show Txt q (sha (supHead s)) from tq.cast (by rw [show t.data.toList = _ from HTT.out]))
    have HBE7 := Lib.hid (HBE6.out.trans (hb7.mono HBE6.out.size))
    clear tq hb7
    go_wp2_with fail
    refine (ofill_walk (t ++ q) 4096 _ (by rw [ByteArray.size_append, hts, hq]; decide) (by decide)).mono ?_
    rintro e w8 ⟨z, rfl, tz, hb8⟩
    have HBE8 := Lib.hid (HBE7.out.trans (hb8.mono HBE7.out.size))
    have HTZ := Lib.hid (show Txt z (supL s) from tz.cast (by unfold supL; rw [show (t ++ q).data.toList = _ from HTT.out.append HTQ.out]))
    clear tz hb8
    go_wp2_with fail
    go_ret2
    exact ⟨z, rfl, HTZ.out, HBE8.out⟩
  · go_simp
    obtain ⟨wa, hw4⟩ : ∃ w4, w4 = wd.alloc (Obj.cells #[Value.int IntKind.i64 s.gen, Value.int IntKind.i64 s.tail, Value.int IntKind.i64 s.epoch, Value.int IntKind.i64 s.clock] 3) := ⟨_, rfl⟩
    rw [← hw4]
    have hb4 : Below wd.heap.size wd wa := by rw [hw4]; exact (Below.refl _ _).alloc (Nat.le_refl _) _
    have B4 : Blk wa wd.heap.size [.int .i64 s.gen, .int .i64 s.tail, .int .i64 s.epoch, .int .i64 s.clock] 3 := by rw [hw4]; exact Blk.new wd _ _
    have HGwa := Lib.hid B4
    have HBwa := Lib.hid (HBwd.out.below hb4 HBwd.out.lt)
    have HBEwa := Lib.hid (HBEwd.out.trans (hb4.mono HBEwd.out.size))
    skip
    clear hb4 B4 hw4
    (try go_wp2_with fail)
    refine hK.out _ _ (HBwa.out) (fun hHeld2 => ?_)
    clear hK K hHeld
    have hHeld := hHeld2
    clear hHeld2
    (try simp only [Act.put, Array.getInternal_eq_getElem, List.getElem_toArray, List.getElem_cons_succ, List.getElem_cons_zero, List.setIfInBounds_toArray, List.set_cons_zero, List.set_cons_succ])
    refine wpAnyH_ready (rs := [0]) (by kernel_rfl) (by simp) ?_
    refine AllReadyH.cons rfl (fun K hK => ?_) AllReadyH.nil
    go_simp
    refine (supWidths_walk _).mono ?_
    rintro e wb ⟨⟨vw, rfl, hvw⟩, hb3⟩
    have HBwb := Lib.hid (HBwa.out.below hb3 HBwa.out.lt)
    have HBEwb := Lib.hid (HBEwa.out.trans (hb3.mono HBEwa.out.size))
    have HVWwb := Lib.hid hvw
    have HGwb := Lib.hid (HGwa.out.below hb3 HGwa.out.lt)
    clear hb3 hvw
    (try go_wp2_with fail)
    refine hK.out _ _ (HBwb.out) (fun hHeld2 => ?_)
    clear hK K hHeld
    have hHeld := hHeld2
    clear hHeld2
    (try simp only [Act.put, Array.getInternal_eq_getElem, List.getElem_toArray, List.getElem_cons_succ, List.getElem_cons_zero, List.setIfInBounds_toArray, List.set_cons_zero, List.set_cons_succ])
    refine wpAnyH_ready (rs := [10]) (by kernel_rfl) (by simp) ?_
    refine AllReadyH.cons rfl (fun K hK => ?_) AllReadyH.nil
    go_simp
    refine (opack_walk _ _ widths10 [s.gen, s.tail, s.epoch, s.clock] _ HVWwb.out (IntRow.blk (xs := [s.gen, s.tail, s.epoch, s.clock]) HGwb.out rfl 4) (by show 0 < 4; decide) (by show 4 ≤ 16; decide) (supPack hs)).mono ?_
    rintro e wp ⟨r, rfl, tr, hb5⟩
    have HBp := Lib.hid (HBwb.out.below hb5 HBwb.out.lt)
    have HBEp := Lib.hid (HBEwb.out.trans (hb5.mono HBEwb.out.size))
    have HTR := Lib.hid (show Txt r (beBytes 8 s.gen.toNat ++ beBytes 4 s.tail.toNat ++ beBytes 4 s.epoch.toNat ++ beBytes 8 s.clock.toNat) from by rw [← supL_pack]; exact tr)
    clear hb5 tr
    (try go_wp2_with fail)
    refine hK.out _ _ (HBp.out) (fun hHeld2 => ?_)
    clear hK K hHeld
    have hHeld := hHeld2
    clear hHeld2
    (try simp only [Act.put, Array.getInternal_eq_getElem, List.getElem_toArray, List.getElem_cons_succ, List.getElem_cons_zero, List.setIfInBounds_toArray, List.set_cons_zero, List.set_cons_succ])
    refine wpAnyH_take (i := 11) (v := ?_) rfl (by kernel_rfl) (by kernel_rfl) (by kernel_rfl) (fun _ _ _ h => h) (Or.inl ⟨by rfl, ?_⟩) (by assumption) ?_
    rotate_left
    · intro w hSw; (try dsimp only at hSw); (have a0 := hSw.cell (i := 0) rfl); (have a1 := hSw.cell (i := 1) rfl); (have a2 := hSw.cell (i := 2) rfl); (have a3 := hSw.cell (i := 3) rfl); go_simp; first | done | with_reducible rfl
    (try simp only [Act.put, Array.getInternal_eq_getElem, List.getElem_toArray, List.getElem_cons_succ, List.getElem_cons_zero, List.setIfInBounds_toArray, List.set_cons_zero, List.set_cons_succ])
    refine wpAnyH_take (i := 12) (v := ?_) rfl (by kernel_rfl) (by kernel_rfl) (by kernel_rfl) (fun _ _ _ h => h) (Or.inl ⟨by rfl, ?_⟩) (by assumption) ?_
    rotate_left
    · intro w hSw; (try dsimp only at hSw); (have a0 := hSw.cell (i := 0) rfl); (have a1 := hSw.cell (i := 1) rfl); (have a2 := hSw.cell (i := 2) rfl); (have a3 := hSw.cell (i := 3) rfl); go_simp; first | done | with_reducible rfl
    (try simp only [Act.put, Array.getInternal_eq_getElem, List.getElem_toArray, List.getElem_cons_succ, List.getElem_cons_zero, List.setIfInBounds_toArray, List.set_cons_zero, List.set_cons_succ])
    refine wpAnyH_take (i := 13) (v := ?_) rfl (by kernel_rfl) (by kernel_rfl) (by kernel_rfl) (fun _ _ _ h => h) (Or.inl ⟨by rfl, ?_⟩) (by assumption) ?_
    rotate_left
    · intro w hSw; (try dsimp only at hSw); (have a0 := hSw.cell (i := 0) rfl); (have a1 := hSw.cell (i := 1) rfl); (have a2 := hSw.cell (i := 2) rfl); (have a3 := hSw.cell (i := 3) rfl); go_simp; first | done | with_reducible rfl
    (try simp only [Act.put, Array.getInternal_eq_getElem, List.getElem_toArray, List.getElem_cons_succ, List.getElem_cons_zero, List.setIfInBounds_toArray, List.set_cons_zero, List.set_cons_succ])
    refine wpAnyH_take (i := 14) (v := ?_) rfl (by kernel_rfl) (by kernel_rfl) (by kernel_rfl) (fun _ _ _ h => h) (Or.inl ⟨by rfl, ?_⟩) (by assumption) ?_
    rotate_left
    · intro w hSw; (try dsimp only at hSw); (have a0 := hSw.cell (i := 0) rfl); (have a1 := hSw.cell (i := 1) rfl); (have a2 := hSw.cell (i := 2) rfl); (have a3 := hSw.cell (i := 3) rfl); go_simp; first | done | with_reducible rfl
    (try simp only [Act.put, Array.getInternal_eq_getElem, List.getElem_toArray, List.getElem_cons_succ, List.getElem_cons_zero, List.setIfInBounds_toArray, List.set_cons_zero, List.set_cons_succ])
    refine wpAnyH_take (i := 15) (v := ?_) rfl (by kernel_rfl) (by kernel_rfl) (by kernel_rfl) (fun _ _ _ h => h) (Or.inl ⟨by rfl, ?_⟩) (by assumption) ?_
    rotate_left
    · intro w hSw; (try dsimp only at hSw); (have a0 := hSw.cell (i := 0) rfl); (have a1 := hSw.cell (i := 1) rfl); (have a2 := hSw.cell (i := 2) rfl); (have a3 := hSw.cell (i := 3) rfl); go_simp; first | done | with_reducible rfl
    (try simp only [Act.put, Array.getInternal_eq_getElem, List.getElem_toArray, List.getElem_cons_succ, List.getElem_cons_zero, List.setIfInBounds_toArray, List.set_cons_zero, List.set_cons_succ])
    refine wpAnyH_done (by kernel_rfl) ?_ _
    go_wp2_with (first
      | ((with_reducible refine wpList_load_met 23 (.tmp 30) b1 4 s.geo.cells _ (some 31) (sup_geo HBp.out) Tryz.underlying23 rfl sizeGeo ?hg ?ho ?hds ?hx ?_); (case ho => rfl); (case hg => rfl); (case hds => rfl); (case hx => rfl))
      | fail)
    refine (geomPut_walk s.geo _ hs.geo).mono ?_
    rintro e w6 ⟨g, rfl, tg, hb6⟩
    have HTG := Lib.hid tg
    have HBE6 := Lib.hid (HBEp.out.trans (hb6.mono HBEp.out.size))
    clear tg hb6
    have hr : r.size = 24 := by rw [HTR.out.size]; simp [beBytes_length]
    have hg : g.size = 12 := by rw [HTG.out.size, geoL_length]
    go_upto_region 7 with fail
    obtain ⟨t, ht⟩ : ∃ t, (⟨#[107, 101, 101, 112, 115, 97, 107, 101, 49]⟩ : ByteArray) ++ r ++ g = t := ⟨_, rfl⟩
    rw [ht]
    have hts : t.size = 45 := by rw [← ht, ByteArray.size_append, ByteArray.size_append, hr, hg]; rfl
    have HTT := Lib.hid (show Txt t (supHead s) by rw [← ht]; exact ((show Txt (⟨#[107, 101, 101, 112, 115, 97, 107, 101, 49]⟩ : ByteArray) markS from rfl).append HTR.out).append HTG.out)
    clear ht hr hg
    go_wp2_with fail
    refine (sum_one t _ _ (by omega)).mono ?_
    rintro e w7 ⟨q, rfl, tq, hb7⟩
    have hq : q.size = 32 := by rw [tq.size, sha_length]
    have HTQ := Lib.hid (show Txt q (sha (supHead s)) from tq.cast (by rw [show t.data.toList = _ from HTT.out]))
    have HBE7 := Lib.hid (HBE6.out.trans (hb7.mono HBE6.out.size))
    clear tq hb7
    go_wp2_with fail
    refine (ofill_walk (t ++ q) 4096 _ (by rw [ByteArray.size_append, hts, hq]; decide) (by decide)).mono ?_
    rintro e w8 ⟨z, rfl, tz, hb8⟩
    have HBE8 := Lib.hid (HBE7.out.trans (hb8.mono HBE7.out.size))
    have HTZ := Lib.hid (show Txt z (supL s) from tz.cast (by unfold supL; rw [show (t ++ q).data.toList = _ from HTT.out.append HTQ.out]))
    clear tz hb8
    go_wp2_with fail
    go_ret2
    exact ⟨z, rfl, HTZ.out, HBE8.out⟩
end Go.Proofs.YtppdboadjefieaaGreat
