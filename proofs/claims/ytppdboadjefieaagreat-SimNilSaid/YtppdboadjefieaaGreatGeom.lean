/- Shapes (chapter 9): Check, Data, Place, Key, Super, widths, Put, of a shape that may be. -/
import Derived.Test.YtppdboadjefieaaGreatVolS
import Derived.Test.YtppdboadjefieaaGreatLoad
import Derived.Test.YtppdboadjefieaaGreatG7
import Derived.Test.YtppdboadjefieaaGreatG3
import Derived.OrdersHeld
namespace Go.Proofs.YtppdboadjefieaaGreat
set_option linter.unusedSimpArgs false
set_option linter.unusedVariables false
open Go Go.RowKit
set_option linter.unusedVariables false
set_option maxRecDepth 100000

theorem sizeGeo {g : GeoD} : (Tryz.prog.info? 23).map (·.size) = some g.cells.length := by kernel_rfl
theorem geo_one (g : GeoD) : ∀ v ∈ g.cells, v.oneCell' = true := by intro v hv; simp [GeoD.cells] at hv; rcases hv with rfl | rfl | rfl <;> rfl
set_option maxHeartbeats 1000000 in
theorem geomCheck_walk (g : GeoD) (w : World) (hg : GeoOk g) :
    Calls Tryz.prog 78 #[g.v] w fun e w' => e = .returned (.int .i64 0) ∧ Below w.heap.size w w' := by
  obtain ⟨blocks, lbas, first⟩ := g
  obtain ⟨h1, h2, h3, h4, h5, h6⟩ := hg
  simp only at h1 h2 h3 h4 h5 h6
  have h6' : ¬ (4294967295 : Int) < first := by omega
  clear h6
  go_enter Tryz.func78, Tryz.ntmps78
  go_wp2_with (first
    | ((with_reducible refine wpList_box_new 23 (.tmp 0) (GeoD.cells ⟨blocks, lbas, first⟩) (some 1) ?hgd ?ho ?hd ?hx ?_); (case hgd => rfl); (case ho => rfl); (case hd => rfl); (case hx => rfl); (intro b1 w1 l1 B1 e1 z1); (have c0 := B1.cell (i := 0) rfl); (have c1 := B1.cell (i := 1) rfl); (have c2 := B1.cell (i := 2) rfl))
    | fail)
  go_ret
  exact ⟨rfl, e1.mono l1⟩
theorem geomData_walk (g : GeoD) (w : World) (hg : GeoOk g) :
    Calls Tryz.prog 129 #[g.v] w fun e w' => e = .returned (.int .i64 (g.blocks - 4)) ∧ Below w.heap.size w w' := by
  have h1 := hg.b0
  have h2 := hg.b1
  go_enter Tryz.func129, Tryz.ntmps129
  go_wp2_with (first
    | ((with_reducible refine wpList_box_new 23 (.tmp 0) g.cells (some 1) ?hgd ?ho ?hd ?hx ?_); (case hgd => rfl); (case ho => rfl); (case hd => rfl); (case hx => rfl); (intro b1 w1 l1 B1 e1 z1))
    | ((with_reducible refine wpList_load_met 23 (.tmp 1) b1 0 g.cells _ (some 3) B1.range Tryz.underlying23 rfl sizeGeo ?hg ?ho ?hds ?hx ?_); (case ho => rfl); (case hg => rfl); (case hds => rfl); (case hx => rfl))
    | fail)
  refine (geomCheck_walk g _ hg).mono ?_
  rintro e w2 ⟨rfl, hb2⟩
  have c0 := (B1.below hb2 z1).cell (i := 0) rfl
  go_wp2_with fail
  go_ret
  exact ⟨rfl, (e1.mono l1).trans (hb2.mono (Nat.le_trans l1 (Nat.le_of_lt z1)))⟩
theorem geomPlace_walk (g : GeoD) (i : Int) (w : World) (hg : GeoOk g) (h0 : 0 ≤ i) (h1 : i < g.blocks - 4) :
    Calls Tryz.prog 239 #[g.v, .int .i64 i] w fun e w' => e = .returned (.tuple #[.int .i64 (4 + i), .int .i64 0]) ∧ Below w.heap.size w w' := by
  have h2 := hg.b1
  have hdi : decide (i < 0) = false := decide_eq_false (by omega)
  go_enter Tryz.func239, Tryz.ntmps239
  go_wp2_with (first
    | ((with_reducible refine wpList_box_new 23 (.tmp 0) g.cells (some 2) ?hgd ?ho ?hd ?hx ?_); (case hgd => rfl); (case ho => rfl); (case hd => rfl); (case hx => rfl); (intro b1 w1 l1 B1 e1 z1))
    | ((with_reducible refine wpList_load_met 23 (.tmp 2) b1 0 g.cells _ (some 10) B1.range Tryz.underlying23 rfl sizeGeo ?hg ?ho ?hds ?hx ?_); (case ho => rfl); (case hg => rfl); (case hds => rfl); (case hx => rfl))
    | (rw [hdi]; ((with_reducible refine wpList_load_met 23 (.tmp 2) b1 0 g.cells _ (some 10) B1.range Tryz.underlying23 rfl sizeGeo ?hg ?ho ?hds ?hx ?_); (case ho => rfl); (case hg => rfl); (case hds => rfl); (case hx => rfl)))
    | fail)
  refine (geomData_walk g _ hg).mono ?_
  rintro e w2 ⟨rfl, hb2⟩
  go_wp2_with fail
  go_ret2
  exact ⟨rfl, (e1.mono l1).trans (hb2.mono (Nat.le_trans l1 (Nat.le_of_lt z1)))⟩
theorem geomKey_walk (n : Int) (w : World) (h : 0 ≤ n) :
    Calls Tryz.prog 150 #[.int .i64 n] w fun e w' => e = .returned (.int .i64 (2 + n % 2)) ∧ w = w' := by
  go_enter Tryz.func150, Tryz.ntmps150
  go_wp2_with fail
  go_ret
  exact ⟨by show Ending.returned (.int .i64 (2 + max n 0 % 2)) = _; rw [Int.max_eq_left h], rfl⟩
theorem geomSuper_walk (n : Int) (w : World) (h : 0 ≤ n) :
    Calls Tryz.prog 243 #[.int .i64 n] w fun e w' => e = .returned (.int .i64 (n % 2)) ∧ w = w' := by
  go_enter Tryz.func243, Tryz.ntmps243
  go_wp2_with fail
  go_ret
  exact ⟨by show Ending.returned (.int .i64 (max n 0 % 2)) = _; rw [Int.max_eq_left h], rfl⟩
def widths9 : List Int := [4, 4, 4]
theorem geomWidths_walk (w : World) :
    Calls Tryz.prog 387 #[] w fun e w' => (∃ v, e = .returned v ∧ IntRow w' v widths9) ∧ Below w.heap.size w w' := by
  go_enter Tryz.func387, Tryz.ntmps387
  go_wp2_with fail
  go_ret
  exact ⟨⟨_, rfl, IntRow.blk (xs := widths9) (Blk.new w (widths9.map (Value.int .i64)) _) rfl 3⟩, (Below.refl _ _).alloc (Nat.le_refl _) _⟩
theorem geoPack {g : GeoD} (h : GeoOk g) : PackOk widths9 [g.blocks, g.lbas, g.first] := by
  obtain ⟨h1, h2, h3, h4, h5, h6⟩ := h
  have p4 : (256 : Nat) ^ 4 = 4294967296 := rfl
  refine ⟨rfl, fun i a x ha hx => ?_⟩
  match i, ha, hx with
  | 0, ha, hx => simp [widths9] at ha hx; subst ha; subst hx; simp; omega
  | 1, ha, hx => simp [widths9] at ha hx; subst ha; subst hx; simp; omega
  | 2, ha, hx => simp [widths9] at ha hx; subst ha; subst hx; simp; omega
theorem geoL_pack (g : GeoD) : packL widths9 [g.blocks, g.lbas, g.first] = geoL g := by simp [packL, widths9, geoL]
set_option maxHeartbeats 1000000 in
theorem geomPut_walk (g : GeoD) (w : World) (hg : GeoOk g) :
    Calls Tryz.prog 325 #[g.v] w fun e w' => ∃ r, e = .returned (.tuple #[.string r, .int .i64 0]) ∧ Txt r (geoL g) ∧ Below w.heap.size w w' := by
  go_enter Tryz.func325, Tryz.ntmps325
  go_wp2_with (first
    | ((with_reducible refine wpList_box_new 23 (.tmp 0) g.cells (some 1) ?hgd ?ho ?hd ?hx ?_); (case hgd => rfl); (case ho => rfl); (case hd => rfl); (case hx => rfl); (intro b1 w1 l1 B1 e1 z1))
    | ((with_reducible refine wpList_load_met 23 (.tmp 1) b1 0 g.cells _ (some 5) B1.range Tryz.underlying23 rfl sizeGeo ?hg ?ho ?hds ?hx ?_); (case ho => rfl); (case hg => rfl); (case hds => rfl); (case hx => rfl))
    | fail)
  refine (geomCheck_walk g _ hg).mono ?_
  rintro e w2 ⟨rfl, hb2⟩
  have HB2 := Lib.hid (B1.below hb2 z1)
  have HBE2 := Lib.hid ((e1.mono l1).trans (hb2.mono (Nat.le_trans l1 (Nat.le_of_lt z1))))
  clear hb2 B1 e1
  go_upto_region 4 with fail
  refine wp_region_held_drew (S := fun wx => wx.cell? ⟨b1, 0, none⟩ = some (.int .i64 g.blocks) ∧ wx.cell? ⟨b1, 1, none⟩ = some (.int .i64 g.lbas) ∧ wx.cell? ⟨b1, 2, none⟩ = some (.int .i64 g.first)) (by kernel_rfl) (⟨HB2.out.cell (i := 0) rfl, HB2.out.cell (i := 1) rfl, HB2.out.cell (i := 2) rfl⟩) (fun hHeld => ?_)
  obtain ⟨wd, hwd⟩ : ∃ wd, wd = w2.drew := ⟨_, rfl⟩
  have HBwd : Hid (Blk wd b1 g.cells 23) := Lib.hid (by rw [hwd]; exact HB2.out.drew)
  have HBEwd : Hid (Below w.heap.size w wd) := Lib.hid (by rw [hwd]; exact HBE2.out.drew)
  rw [← hwd]
  rw [← hwd] at hHeld
  clear hwd
  refine wpAnyH_take (i := 1) (v := ?_) rfl (by kernel_rfl) (by kernel_rfl) (by kernel_rfl) (fun _ _ _ h => h) (Or.inl ⟨by rfl, ?_⟩) (by assumption) ?_
  rotate_left
  · intro w hSw; (try dsimp only at hSw); go_simp; first | done | with_reducible rfl
  (try simp only [Act.put, Array.getInternal_eq_getElem, List.getElem_toArray, List.getElem_cons_succ, List.getElem_cons_zero, List.setIfInBounds_toArray, List.set_cons_zero, List.set_cons_succ])
  refine wpAnyH_take (i := 2) (v := ?_) rfl (by kernel_rfl) (by kernel_rfl) (by kernel_rfl) (fun _ _ _ h => h) (Or.inl ⟨by rfl, ?_⟩) (by assumption) ?_
  rotate_left
  · intro w hSw; (try dsimp only at hSw); go_simp; first | done | with_reducible rfl
  (try simp only [Act.put, Array.getInternal_eq_getElem, List.getElem_toArray, List.getElem_cons_succ, List.getElem_cons_zero, List.setIfInBounds_toArray, List.set_cons_zero, List.set_cons_succ])
  refine wpAnyH_take (i := 3) (v := ?_) rfl (by kernel_rfl) (by kernel_rfl) (by kernel_rfl) (fun _ _ _ h => h) (Or.inl ⟨by rfl, ?_⟩) (by assumption) ?_
  rotate_left
  · intro w hSw; (try dsimp only at hSw); go_simp; first | done | with_reducible rfl
  (try simp only [Act.put, Array.getInternal_eq_getElem, List.getElem_toArray, List.getElem_cons_succ, List.getElem_cons_zero, List.setIfInBounds_toArray, List.set_cons_zero, List.set_cons_succ])
  refine wpAnyH_take (i := 4) (v := ?_) rfl (by kernel_rfl) (by kernel_rfl) (by kernel_rfl) (fun _ _ _ h => h) (Or.inl ⟨by rfl, ?_⟩) (by assumption) ?_
  rotate_left
  · intro w hSw; (try dsimp only at hSw); go_simp; first | done | with_reducible rfl
  (try simp only [Act.put, Array.getInternal_eq_getElem, List.getElem_toArray, List.getElem_cons_succ, List.getElem_cons_zero, List.setIfInBounds_toArray, List.set_cons_zero, List.set_cons_succ])
  refine wpAnyH_take (i := 5) (v := ?_) rfl (by kernel_rfl) (by kernel_rfl) (by kernel_rfl) (fun _ _ _ h => h) (Or.inl ⟨by rfl, ?_⟩) (by assumption) ?_
  rotate_left
  · intro w hSw; (try dsimp only at hSw); go_simp; first | done | with_reducible rfl
  (try simp only [Act.put, Array.getInternal_eq_getElem, List.getElem_toArray, List.getElem_cons_succ, List.getElem_cons_zero, List.setIfInBounds_toArray, List.set_cons_zero, List.set_cons_succ])
  refine wpAnyH_take (i := 6) (v := ?_) rfl (by kernel_rfl) (by kernel_rfl) (by kernel_rfl) (fun _ _ _ h => h) (Or.inl ⟨by rfl, ?_⟩) (by assumption) ?_
  rotate_left
  · intro w hSw; (try dsimp only at hSw); go_simp; first | done | with_reducible rfl
  (try simp only [Act.put, Array.getInternal_eq_getElem, List.getElem_toArray, List.getElem_cons_succ, List.getElem_cons_zero, List.setIfInBounds_toArray, List.set_cons_zero, List.set_cons_succ])
  refine wpAnyH_ready (rs := [0, 7]) (by kernel_rfl) (by simp) ?_
  refine AllReadyH.cons rfl (fun K hK => ?_) (AllReadyH.cons rfl (fun K hK => ?_) AllReadyH.nil)
  · go_simp
    refine (geomWidths_walk _).mono ?_
    rintro e wa ⟨⟨vw, rfl, hvw⟩, hb3⟩
    have HBwa := Lib.hid (HBwd.out.below hb3 HBwd.out.lt)
    have HBEwa := Lib.hid (HBEwd.out.trans (hb3.mono HBEwd.out.size))
    have HVWwa := Lib.hid hvw
    skip
    clear hb3 hvw
    (try go_wp2_with fail)
    refine hK.out _ _ (⟨HBwa.out.cell (i := 0) rfl, HBwa.out.cell (i := 1) rfl, HBwa.out.cell (i := 2) rfl⟩) (fun hHeld2 => ?_)
    clear hK K hHeld
    have hHeld := hHeld2
    clear hHeld2
    (try simp only [Act.put, Array.getInternal_eq_getElem, List.getElem_toArray, List.getElem_cons_succ, List.getElem_cons_zero, List.setIfInBounds_toArray, List.set_cons_zero, List.set_cons_succ])
    refine wpAnyH_ready (rs := [7]) (by kernel_rfl) (by simp) ?_
    refine AllReadyH.cons rfl (fun K hK => ?_) AllReadyH.nil
    go_simp
    obtain ⟨wb, hw4⟩ : ∃ w4, w4 = wa.alloc (Obj.cells #[Value.int IntKind.i64 g.blocks, Value.int IntKind.i64 g.lbas, Value.int IntKind.i64 g.first] 3) := ⟨_, rfl⟩
    rw [← hw4]
    have hb4 : Below wa.heap.size wa wb := by rw [hw4]; exact (Below.refl _ _).alloc (Nat.le_refl _) _
    have B4 : Blk wb wa.heap.size [.int .i64 g.blocks, .int .i64 g.lbas, .int .i64 g.first] 3 := by rw [hw4]; exact Blk.new wa _ _
    have HGwb := Lib.hid B4
    have HBwb := Lib.hid (HBwa.out.below hb4 HBwa.out.lt)
    have HBEwb := Lib.hid (HBEwa.out.trans (hb4.mono HBEwa.out.size))
    have HVWwb := Lib.hid (HVWwa.out.below hb4 (Nat.le_refl _))
    clear hb4 B4 hw4
    (try go_wp2_with fail)
    refine hK.out _ _ (⟨HBwb.out.cell (i := 0) rfl, HBwb.out.cell (i := 1) rfl, HBwb.out.cell (i := 2) rfl⟩) (fun hHeld2 => ?_)
    clear hK K hHeld
    have hHeld := hHeld2
    clear hHeld2
    (try simp only [Act.put, Array.getInternal_eq_getElem, List.getElem_toArray, List.getElem_cons_succ, List.getElem_cons_zero, List.setIfInBounds_toArray, List.set_cons_zero, List.set_cons_succ])
    refine wpAnyH_ready (rs := [8]) (by kernel_rfl) (by simp) ?_
    refine AllReadyH.cons rfl (fun K hK => ?_) AllReadyH.nil
    go_simp
    refine (opack_walk _ _ widths9 [g.blocks, g.lbas, g.first] _ HVWwb.out (IntRow.blk (xs := [g.blocks, g.lbas, g.first]) HGwb.out rfl 3) (by show 0 < 3; decide) (by show 3 ≤ 16; decide) (geoPack hg)).mono ?_
    rintro e wp ⟨r, rfl, tr, hb5⟩
    have HBp := Lib.hid (HBwb.out.below hb5 HBwb.out.lt)
    have HBEp := Lib.hid (HBEwb.out.trans (hb5.mono HBEwb.out.size))
    have HTR := Lib.hid tr
    clear hb5 tr
    (try go_wp2_with fail)
    refine hK.out _ _ (⟨HBp.out.cell (i := 0) rfl, HBp.out.cell (i := 1) rfl, HBp.out.cell (i := 2) rfl⟩) (fun hHeld2 => ?_)
    clear hK K hHeld
    have hHeld := hHeld2
    clear hHeld2
    (try simp only [Act.put, Array.getInternal_eq_getElem, List.getElem_toArray, List.getElem_cons_succ, List.getElem_cons_zero, List.setIfInBounds_toArray, List.set_cons_zero, List.set_cons_succ])
    refine wpAnyH_take (i := 9) (v := ?_) rfl (by kernel_rfl) (by kernel_rfl) (by kernel_rfl) (fun _ _ _ h => h) (Or.inl ⟨by rfl, ?_⟩) (by assumption) ?_
    rotate_left
    · intro w hSw; (try dsimp only at hSw); go_simp; first | done | with_reducible rfl
    (try simp only [Act.put, Array.getInternal_eq_getElem, List.getElem_toArray, List.getElem_cons_succ, List.getElem_cons_zero, List.setIfInBounds_toArray, List.set_cons_zero, List.set_cons_succ])
    refine wpAnyH_take (i := 10) (v := ?_) rfl (by kernel_rfl) (by kernel_rfl) (by kernel_rfl) (fun _ _ _ h => h) (Or.inl ⟨by rfl, ?_⟩) (by assumption) ?_
    rotate_left
    · intro w hSw; (try dsimp only at hSw); go_simp; first | done | with_reducible rfl
    (try simp only [Act.put, Array.getInternal_eq_getElem, List.getElem_toArray, List.getElem_cons_succ, List.getElem_cons_zero, List.setIfInBounds_toArray, List.set_cons_zero, List.set_cons_succ])
    refine wpAnyH_take (i := 11) (v := ?_) rfl (by kernel_rfl) (by kernel_rfl) (by kernel_rfl) (fun _ _ _ h => h) (Or.inl ⟨by rfl, ?_⟩) (by assumption) ?_
    rotate_left
    · intro w hSw; (try dsimp only at hSw); go_simp; first | done | with_reducible rfl
    (try simp only [Act.put, Array.getInternal_eq_getElem, List.getElem_toArray, List.getElem_cons_succ, List.getElem_cons_zero, List.setIfInBounds_toArray, List.set_cons_zero, List.set_cons_succ])
    refine wpAnyH_take (i := 12) (v := ?_) rfl (by kernel_rfl) (by kernel_rfl) (by kernel_rfl) (fun _ _ _ h => h) (Or.inl ⟨by rfl, ?_⟩) (by assumption) ?_
    rotate_left
    · intro w hSw; (try dsimp only at hSw); go_simp; first | done | with_reducible rfl
    (try simp only [Act.put, Array.getInternal_eq_getElem, List.getElem_toArray, List.getElem_cons_succ, List.getElem_cons_zero, List.setIfInBounds_toArray, List.set_cons_zero, List.set_cons_succ])
    refine wpAnyH_done (by kernel_rfl) ?_ _
    go_wp2_with fail
    go_ret2
    exact ⟨_, rfl, by rw [← geoL_pack]; exact HTR.out, HBEp.out⟩
  · go_simp
    obtain ⟨wa, hw4⟩ : ∃ w4, w4 = wd.alloc (Obj.cells #[Value.int IntKind.i64 g.blocks, Value.int IntKind.i64 g.lbas, Value.int IntKind.i64 g.first] 3) := ⟨_, rfl⟩
    rw [← hw4]
    have hb4 : Below wd.heap.size wd wa := by rw [hw4]; exact (Below.refl _ _).alloc (Nat.le_refl _) _
    have B4 : Blk wa wd.heap.size [.int .i64 g.blocks, .int .i64 g.lbas, .int .i64 g.first] 3 := by rw [hw4]; exact Blk.new wd _ _
    have HGwa := Lib.hid B4
    have HBwa := Lib.hid (HBwd.out.below hb4 HBwd.out.lt)
    have HBEwa := Lib.hid (HBEwd.out.trans (hb4.mono HBEwd.out.size))
    skip
    clear hb4 B4 hw4
    (try go_wp2_with fail)
    refine hK.out _ _ (⟨HBwa.out.cell (i := 0) rfl, HBwa.out.cell (i := 1) rfl, HBwa.out.cell (i := 2) rfl⟩) (fun hHeld2 => ?_)
    clear hK K hHeld
    have hHeld := hHeld2
    clear hHeld2
    (try simp only [Act.put, Array.getInternal_eq_getElem, List.getElem_toArray, List.getElem_cons_succ, List.getElem_cons_zero, List.setIfInBounds_toArray, List.set_cons_zero, List.set_cons_succ])
    refine wpAnyH_ready (rs := [0]) (by kernel_rfl) (by simp) ?_
    refine AllReadyH.cons rfl (fun K hK => ?_) AllReadyH.nil
    go_simp
    refine (geomWidths_walk _).mono ?_
    rintro e wb ⟨⟨vw, rfl, hvw⟩, hb3⟩
    have HBwb := Lib.hid (HBwa.out.below hb3 HBwa.out.lt)
    have HBEwb := Lib.hid (HBEwa.out.trans (hb3.mono HBEwa.out.size))
    have HVWwb := Lib.hid hvw
    have HGwb := Lib.hid (HGwa.out.below hb3 HGwa.out.lt)
    clear hb3 hvw
    (try go_wp2_with fail)
    refine hK.out _ _ (⟨HBwb.out.cell (i := 0) rfl, HBwb.out.cell (i := 1) rfl, HBwb.out.cell (i := 2) rfl⟩) (fun hHeld2 => ?_)
    clear hK K hHeld
    have hHeld := hHeld2
    clear hHeld2
    (try simp only [Act.put, Array.getInternal_eq_getElem, List.getElem_toArray, List.getElem_cons_succ, List.getElem_cons_zero, List.setIfInBounds_toArray, List.set_cons_zero, List.set_cons_succ])
    refine wpAnyH_ready (rs := [8]) (by kernel_rfl) (by simp) ?_
    refine AllReadyH.cons rfl (fun K hK => ?_) AllReadyH.nil
    go_simp
    refine (opack_walk _ _ widths9 [g.blocks, g.lbas, g.first] _ HVWwb.out (IntRow.blk (xs := [g.blocks, g.lbas, g.first]) HGwb.out rfl 3) (by show 0 < 3; decide) (by show 3 ≤ 16; decide) (geoPack hg)).mono ?_
    rintro e wp ⟨r, rfl, tr, hb5⟩
    have HBp := Lib.hid (HBwb.out.below hb5 HBwb.out.lt)
    have HBEp := Lib.hid (HBEwb.out.trans (hb5.mono HBEwb.out.size))
    have HTR := Lib.hid tr
    clear hb5 tr
    (try go_wp2_with fail)
    refine hK.out _ _ (⟨HBp.out.cell (i := 0) rfl, HBp.out.cell (i := 1) rfl, HBp.out.cell (i := 2) rfl⟩) (fun hHeld2 => ?_)
    clear hK K hHeld
    have hHeld := hHeld2
    clear hHeld2
    (try simp only [Act.put, Array.getInternal_eq_getElem, List.getElem_toArray, List.getElem_cons_succ, List.getElem_cons_zero, List.setIfInBounds_toArray, List.set_cons_zero, List.set_cons_succ])
    refine wpAnyH_take (i := 9) (v := ?_) rfl (by kernel_rfl) (by kernel_rfl) (by kernel_rfl) (fun _ _ _ h => h) (Or.inl ⟨by rfl, ?_⟩) (by assumption) ?_
    rotate_left
    · intro w hSw; (try dsimp only at hSw); go_simp; first | done | with_reducible rfl
    (try simp only [Act.put, Array.getInternal_eq_getElem, List.getElem_toArray, List.getElem_cons_succ, List.getElem_cons_zero, List.setIfInBounds_toArray, List.set_cons_zero, List.set_cons_succ])
    refine wpAnyH_take (i := 10) (v := ?_) rfl (by kernel_rfl) (by kernel_rfl) (by kernel_rfl) (fun _ _ _ h => h) (Or.inl ⟨by rfl, ?_⟩) (by assumption) ?_
    rotate_left
    · intro w hSw; (try dsimp only at hSw); go_simp; first | done | with_reducible rfl
    (try simp only [Act.put, Array.getInternal_eq_getElem, List.getElem_toArray, List.getElem_cons_succ, List.getElem_cons_zero, List.setIfInBounds_toArray, List.set_cons_zero, List.set_cons_succ])
    refine wpAnyH_take (i := 11) (v := ?_) rfl (by kernel_rfl) (by kernel_rfl) (by kernel_rfl) (fun _ _ _ h => h) (Or.inl ⟨by rfl, ?_⟩) (by assumption) ?_
    rotate_left
    · intro w hSw; (try dsimp only at hSw); go_simp; first | done | with_reducible rfl
    (try simp only [Act.put, Array.getInternal_eq_getElem, List.getElem_toArray, List.getElem_cons_succ, List.getElem_cons_zero, List.setIfInBounds_toArray, List.set_cons_zero, List.set_cons_succ])
    refine wpAnyH_take (i := 12) (v := ?_) rfl (by kernel_rfl) (by kernel_rfl) (by kernel_rfl) (fun _ _ _ h => h) (Or.inl ⟨by rfl, ?_⟩) (by assumption) ?_
    rotate_left
    · intro w hSw; (try dsimp only at hSw); go_simp; first | done | with_reducible rfl
    (try simp only [Act.put, Array.getInternal_eq_getElem, List.getElem_toArray, List.getElem_cons_succ, List.getElem_cons_zero, List.setIfInBounds_toArray, List.set_cons_zero, List.set_cons_succ])
    refine wpAnyH_done (by kernel_rfl) ?_ _
    go_wp2_with fail
    go_ret2
    exact ⟨_, rfl, by rw [← geoL_pack]; exact HTR.out, HBEp.out⟩
end Go.Proofs.YtppdboadjefieaaGreat
