/- place and right (chapter 25), of a disk that is right. -/
import Derived.Test.YtppdboadjefieaaGreatJour6
import Derived.IntWalk
namespace Go.Proofs.YtppdboadjefieaaGreat
set_option linter.unusedSimpArgs false
set_option linter.unusedVariables false
open Go Go.RowKit
set_option linter.unusedVariables false
set_option maxRecDepth 100000

theorem place_walk (jb db : Nat) (sv : Value) (last : SupD) (i : Int) (w : World) (h : Blk w jb (jourCells sv db last) 137) (hg : GeoOk last.geo) (h0 : 0 ≤ i) (h1 : i < last.geo.blocks - 4) :
    Calls Tryz.prog 149 #[.pointer (some ⟨jb, 0, none⟩), .int .i64 i] w fun e w' => e = .returned (.int .i64 (4 + i)) ∧ Below w.heap.size w w' := by
  have hr : w.rangeAt jb 6 last.geo.cells := by
    intro j v hv
    match j, hv with
    | 0, hv => simp [GeoD.cells] at hv; subst hv; exact h.cell (i := 6) rfl
    | 1, hv => simp [GeoD.cells] at hv; subst hv; exact h.cell (i := 7) rfl
    | 2, hv => simp [GeoD.cells] at hv; subst hv; exact h.cell (i := 8) rfl
    | j + 3, hv => simp [GeoD.cells] at hv
  go_enter Tryz.func149, Tryz.ntmps149
  go_wp2_with (first
    | ((with_reducible refine wpList_load_met 23 (.tmp 11) jb 6 last.geo.cells _ (some 12) hr Tryz.underlying23 rfl sizeGeo ?hg ?ho ?hds ?hx ?_); (case ho => rfl); (case hg => rfl); (case hds => rfl); (case hx => rfl))
    | fail)
  refine (geomPlace_walk last.geo i _ hg h0 h1).mono ?_
  rintro e w1 ⟨rfl, hb⟩
  go_wp2_with fail
  go_ret
  exact ⟨rfl, hb⟩
set_option maxHeartbeats 4000000 in
theorem right_walk (jb db n t ep : Nat) (sv : Value) (gen clock lbas first : Int) (d : DiskD) (w : World) (h : DiskAt w db d) (hj : Blk w jb (jourCells sv db (⟨gen, (t : Int), (ep : Int), clock, ⟨(n : Int), lbas, first⟩⟩ : SupD)) 137) (hg : GeoOk ⟨(n : Int), lbas, first⟩)
    (hd : d.down = false) (hc : d.cs.length ≤ 4096) (hb : d.bs.length ≤ 1024) (hn : d.bs.length = n) (hep : ep < 4294967296) (ht : 4 + t ≤ n) (hsh : ∀ i, 4 + t ≤ i → i < n → d.shown i = (⟨(List.replicate 4096 0).toArray⟩ : ByteArray)) (hst : (if ep % 2 = 0 then d.shown 3 else d.shown 2) = (⟨(List.replicate 4096 0).toArray⟩ : ByteArray)) :
    Calls Tryz.prog 264 #[.pointer (some ⟨jb, 0, none⟩)] w fun e w' => e = .returned (.int .i64 0) ∧ Below w.heap.size w w' := by
  have hmf : ∀ (fn : Fn) (first cap : Array Value) (w : World), (Instr.makeFunc fn first cap).run Tryz.prog w = .ok (.func fn first cap) w := fun _ _ _ _ => rfl
  have HDw := Lib.hid h
  have HJw := Lib.hid hj
  have HG := Lib.hid hg
  have HDN := Lib.hid hd
  have HC := Lib.hid hc
  have HB := Lib.hid hb
  have HN := Lib.hid (show 8 ≤ n ∧ d.bs.length = n from ⟨by have := hg.b0; simp only at this; omega, hn⟩)
  have HEP := Lib.hid hep
  have HT := Lib.hid ht
  have HSH := Lib.hid hsh
  have HST := Lib.hid hst
  have HBEw := Lib.hid (Below.refl w.heap.size w)
  clear h hj hg hd hc hb hn hep ht hsh hst
  refine calls_marks Tryz.func264 rfl ?_
  simp only [Tryz.ntmps264, List.size_toArray, List.length_cons, List.length_nil, Nat.reduceAdd, Nat.reduceSub, Array.replicate_succ, Array.replicate_zero, List.push_toArray, List.append_toArray, List.nil_append, List.cons_append]
  go_wp2_with fail
  refine wp_region_held_drew (S := fun wx => wx.cell? ⟨jb, 1, none⟩ = some (.pointer (some ⟨db, 0, none⟩)) ∧ wx.cell? ⟨jb, 3, none⟩ = some (.int .i64 (t : Int)) ∧ wx.cell? ⟨jb, 6, none⟩ = some (.int .i64 (n : Int))) (by kernel_rfl) (⟨HJw.out.drew.cell (i := 1) rfl, HJw.out.drew.cell (i := 3) rfl, HJw.out.drew.cell (i := 6) rfl⟩) (fun hHeld => ?_)
  obtain ⟨wi, hwi⟩ : ∃ wi, wi = w.drew := ⟨_, rfl⟩
  have HJwi := Lib.hid (show Blk wi jb (jourCells sv db (⟨gen, (t : Int), (ep : Int), clock, ⟨(n : Int), lbas, first⟩⟩ : SupD)) 137 from by rw [hwi]; exact HJw.out.drew)
  have HDwi := Lib.hid (show DiskAt wi db d from by rw [hwi]; exact HDw.out.below (Below.refl _ _).drew)
  have HBEwi := Lib.hid (show Below w.heap.size w wi from by rw [hwi]; exact HBEw.out.drew)
  rw [← hwi]
  rw [← hwi] at hHeld
  clear hwi
  refine wpAnyH_take (i := 0) (v := ?_) rfl (by kernel_rfl) (by kernel_rfl) (by kernel_rfl) (fun _ _ _ h => h) (Or.inl ⟨by rfl, ?_⟩) (by assumption) ?_
  rotate_left
  · intro w hSw; (try dsimp only at hSw); go_simp; first | done | with_reducible rfl
  (try simp only [Act.put, Array.getInternal_eq_getElem, List.getElem_toArray, List.getElem_cons_succ, List.getElem_cons_zero, List.setIfInBounds_toArray, List.set_cons_zero, List.set_cons_succ])
  refine wpAnyH_take (i := 1) (v := ?_) rfl (by kernel_rfl) (by kernel_rfl) (by kernel_rfl) (fun _ _ _ h => h) (Or.inl ⟨by rfl, ?_⟩) (by assumption) ?_
  rotate_left
  · intro w hSw; (try dsimp only at hSw); go_simp; first | done | with_reducible rfl
  (try simp only [Act.put, Array.getInternal_eq_getElem, List.getElem_toArray, List.getElem_cons_succ, List.getElem_cons_zero, List.setIfInBounds_toArray, List.set_cons_zero, List.set_cons_succ])
  refine wpAnyH_take (i := 2) (v := ?_) rfl (by kernel_rfl) (by kernel_rfl) (by kernel_rfl) (fun _ _ _ h => h) (Or.inl ⟨by rfl, ?_⟩) (by assumption) ?_
  rotate_left
  · intro w hSw; (try dsimp only at hSw); go_simp; first | done | with_reducible rfl
  (try simp only [Act.put, Array.getInternal_eq_getElem, List.getElem_toArray, List.getElem_cons_succ, List.getElem_cons_zero, List.setIfInBounds_toArray, List.set_cons_zero, List.set_cons_succ])
  refine wpAnyH_take (i := 3) (v := ?_) rfl (by kernel_rfl) (by kernel_rfl) (by kernel_rfl) (fun _ _ _ h => h) (Or.inl ⟨by rfl, ?_⟩) (by assumption) ?_
  rotate_left
  · intro w hSw; (try dsimp only at hSw); go_simp; first | done | with_reducible rfl
  (try simp only [Act.put, Array.getInternal_eq_getElem, List.getElem_toArray, List.getElem_cons_succ, List.getElem_cons_zero, List.setIfInBounds_toArray, List.set_cons_zero, List.set_cons_succ])
  refine wpAnyH_ready (rs := [4]) (by kernel_rfl) (by simp) ?_
  refine AllReadyH.cons rfl (fun K hK => ?_) AllReadyH.nil
  go_simp
  refine (geomKey_walk 0 _ (by decide)).mono ?_
  rintro e w' ⟨rfl, rfl⟩
  (try go_wp2_with fail)
  refine hK.out _ _ (⟨HJwi.out.cell (i := 1) rfl, HJwi.out.cell (i := 3) rfl, HJwi.out.cell (i := 6) rfl⟩) (fun hHeld2 => ?_)
  clear hK K hHeld
  have hHeld := hHeld2
  clear hHeld2
  (try simp only [Act.put, Array.getInternal_eq_getElem, List.getElem_toArray, List.getElem_cons_succ, List.getElem_cons_zero, List.setIfInBounds_toArray, List.set_cons_zero, List.set_cons_succ])
  refine wpAnyH_ready (rs := [5]) (by kernel_rfl) (by simp) ?_
  refine AllReadyH.cons rfl (fun K hK => ?_) AllReadyH.nil
  go_simp
  refine (dread_walk db d _ HDwi.out HDN.out 2 (by have := HN.out; omega) HC.out HB.out).mono ?_
  rintro e w' ⟨rfl, rfl⟩
  (try go_wp2_with fail)
  refine hK.out _ _ (⟨HJwi.out.cell (i := 1) rfl, HJwi.out.cell (i := 3) rfl, HJwi.out.cell (i := 6) rfl⟩) (fun hHeld2 => ?_)
  clear hK K hHeld
  have hHeld := hHeld2
  clear hHeld2
  (try simp only [Act.put, Array.getInternal_eq_getElem, List.getElem_toArray, List.getElem_cons_succ, List.getElem_cons_zero, List.setIfInBounds_toArray, List.set_cons_zero, List.set_cons_succ])
  refine wpAnyH_take (i := 6) (v := ?_) rfl (by kernel_rfl) (by kernel_rfl) (by kernel_rfl) (fun _ _ _ h => h) (Or.inl ⟨by rfl, ?_⟩) (by assumption) ?_
  rotate_left
  · intro w hSw; (try dsimp only at hSw); go_simp; first | done | with_reducible rfl
  (try simp only [Act.put, Array.getInternal_eq_getElem, List.getElem_toArray, List.getElem_cons_succ, List.getElem_cons_zero, List.setIfInBounds_toArray, List.set_cons_zero, List.set_cons_succ])
  refine wpAnyH_take (i := 7) (v := ?_) rfl (by kernel_rfl) (by kernel_rfl) (by kernel_rfl) (fun _ _ _ h => h) (Or.inl ⟨by rfl, ?_⟩) (by assumption) ?_
  rotate_left
  · intro w hSw; (try dsimp only at hSw); go_simp; first | done | with_reducible rfl
  (try simp only [Act.put, Array.getInternal_eq_getElem, List.getElem_toArray, List.getElem_cons_succ, List.getElem_cons_zero, List.setIfInBounds_toArray, List.set_cons_zero, List.set_cons_succ])
  refine wpAnyH_take (i := 8) (v := ?_) rfl (by kernel_rfl) (by kernel_rfl) (by kernel_rfl) (fun _ _ _ h => h) (Or.inl ⟨by rfl, ?_⟩) (by assumption) ?_
  rotate_left
  · intro w hSw; (try dsimp only at hSw); go_simp; first | done | with_reducible rfl
  (try simp only [Act.put, Array.getInternal_eq_getElem, List.getElem_toArray, List.getElem_cons_succ, List.getElem_cons_zero, List.setIfInBounds_toArray, List.set_cons_zero, List.set_cons_succ])
  refine wpAnyH_take (i := 9) (v := ?_) rfl (by kernel_rfl) (by kernel_rfl) (by kernel_rfl) (fun _ _ _ h => h) (Or.inl ⟨by rfl, ?_⟩) (by assumption) ?_
  rotate_left
  · intro w hSw; (try dsimp only at hSw); go_simp; first | done | with_reducible rfl
  (try simp only [Act.put, Array.getInternal_eq_getElem, List.getElem_toArray, List.getElem_cons_succ, List.getElem_cons_zero, List.setIfInBounds_toArray, List.set_cons_zero, List.set_cons_succ])
  refine wpAnyH_take (i := 10) (v := ?_) rfl (by kernel_rfl) (by kernel_rfl) (by kernel_rfl) (fun _ _ _ h => h) (Or.inl ⟨by rfl, ?_⟩) (by assumption) ?_
  rotate_left
  · intro w hSw; (try dsimp only at hSw); go_simp; first | done | with_reducible rfl
  (try simp only [Act.put, Array.getInternal_eq_getElem, List.getElem_toArray, List.getElem_cons_succ, List.getElem_cons_zero, List.setIfInBounds_toArray, List.set_cons_zero, List.set_cons_succ])
  refine wpAnyH_done (by kernel_rfl) ?_ _
  clear hHeld
  go_wp2_with fail
  refine wp_region_held_drew (S := fun wx => wx.cell? ⟨jb, 1, none⟩ = some (.pointer (some ⟨db, 0, none⟩)) ∧ wx.cell? ⟨jb, 3, none⟩ = some (.int .i64 (t : Int)) ∧ wx.cell? ⟨jb, 6, none⟩ = some (.int .i64 (n : Int))) (by kernel_rfl) (⟨HJwi.out.drew.cell (i := 1) rfl, HJwi.out.drew.cell (i := 3) rfl, HJwi.out.drew.cell (i := 6) rfl⟩) (fun hHeld => ?_)
  obtain ⟨wj, hwj⟩ : ∃ wj, wj = wi.drew := ⟨_, rfl⟩
  have HJwj := Lib.hid (show Blk wj jb (jourCells sv db (⟨gen, (t : Int), (ep : Int), clock, ⟨(n : Int), lbas, first⟩⟩ : SupD)) 137 from by rw [hwj]; exact HJwi.out.drew)
  have HDwj := Lib.hid (show DiskAt wj db d from by rw [hwj]; exact HDwi.out.below (Below.refl _ _).drew)
  have HBEwj := Lib.hid (show Below w.heap.size w wj from by rw [hwj]; exact HBEwi.out.drew)
  rw [← hwj]
  rw [← hwj] at hHeld
  clear hwj
  refine wpAnyH_take (i := 0) (v := ?_) rfl (by kernel_rfl) (by kernel_rfl) (by kernel_rfl) (fun _ _ _ h => h) (Or.inl ⟨by rfl, ?_⟩) (by assumption) ?_
  rotate_left
  · intro w hSw; (try dsimp only at hSw); go_simp; first | done | with_reducible rfl
  (try simp only [Act.put, Array.getInternal_eq_getElem, List.getElem_toArray, List.getElem_cons_succ, List.getElem_cons_zero, List.setIfInBounds_toArray, List.set_cons_zero, List.set_cons_succ])
  refine wpAnyH_take (i := 1) (v := ?_) rfl (by kernel_rfl) (by kernel_rfl) (by kernel_rfl) (fun _ _ _ h => h) (Or.inl ⟨by rfl, ?_⟩) (by assumption) ?_
  rotate_left
  · intro w hSw; (try dsimp only at hSw); go_simp; first | done | with_reducible rfl
  (try simp only [Act.put, Array.getInternal_eq_getElem, List.getElem_toArray, List.getElem_cons_succ, List.getElem_cons_zero, List.setIfInBounds_toArray, List.set_cons_zero, List.set_cons_succ])
  refine wpAnyH_take (i := 2) (v := ?_) rfl (by kernel_rfl) (by kernel_rfl) (by kernel_rfl) (fun _ _ _ h => h) (Or.inl ⟨by rfl, ?_⟩) (by assumption) ?_
  rotate_left
  · intro w hSw; (try dsimp only at hSw); go_simp; first | done | with_reducible rfl
  (try simp only [Act.put, Array.getInternal_eq_getElem, List.getElem_toArray, List.getElem_cons_succ, List.getElem_cons_zero, List.setIfInBounds_toArray, List.set_cons_zero, List.set_cons_succ])
  refine wpAnyH_take (i := 3) (v := ?_) rfl (by kernel_rfl) (by kernel_rfl) (by kernel_rfl) (fun _ _ _ h => h) (Or.inl ⟨by rfl, ?_⟩) (by assumption) ?_
  rotate_left
  · intro w hSw; (try dsimp only at hSw); go_simp; first | done | with_reducible rfl
  (try simp only [Act.put, Array.getInternal_eq_getElem, List.getElem_toArray, List.getElem_cons_succ, List.getElem_cons_zero, List.setIfInBounds_toArray, List.set_cons_zero, List.set_cons_succ])
  refine wpAnyH_ready (rs := [4]) (by kernel_rfl) (by simp) ?_
  refine AllReadyH.cons rfl (fun K hK => ?_) AllReadyH.nil
  go_simp
  refine (geomKey_walk 1 _ (by decide)).mono ?_
  rintro e w' ⟨rfl, rfl⟩
  (try go_wp2_with fail)
  refine hK.out _ _ (⟨HJwj.out.cell (i := 1) rfl, HJwj.out.cell (i := 3) rfl, HJwj.out.cell (i := 6) rfl⟩) (fun hHeld2 => ?_)
  clear hK K hHeld
  have hHeld := hHeld2
  clear hHeld2
  (try simp only [Act.put, Array.getInternal_eq_getElem, List.getElem_toArray, List.getElem_cons_succ, List.getElem_cons_zero, List.setIfInBounds_toArray, List.set_cons_zero, List.set_cons_succ])
  refine wpAnyH_ready (rs := [5]) (by kernel_rfl) (by simp) ?_
  refine AllReadyH.cons rfl (fun K hK => ?_) AllReadyH.nil
  go_simp
  refine (dread_walk db d _ HDwj.out HDN.out 3 (by have := HN.out; omega) HC.out HB.out).mono ?_
  rintro e w' ⟨rfl, rfl⟩
  (try go_wp2_with fail)
  refine hK.out _ _ (⟨HJwj.out.cell (i := 1) rfl, HJwj.out.cell (i := 3) rfl, HJwj.out.cell (i := 6) rfl⟩) (fun hHeld2 => ?_)
  clear hK K hHeld
  have hHeld := hHeld2
  clear hHeld2
  (try simp only [Act.put, Array.getInternal_eq_getElem, List.getElem_toArray, List.getElem_cons_succ, List.getElem_cons_zero, List.setIfInBounds_toArray, List.set_cons_zero, List.set_cons_succ])
  refine wpAnyH_take (i := 6) (v := ?_) rfl (by kernel_rfl) (by kernel_rfl) (by kernel_rfl) (fun _ _ _ h => h) (Or.inl ⟨by rfl, ?_⟩) (by assumption) ?_
  rotate_left
  · intro w hSw; (try dsimp only at hSw); go_simp; first | done | with_reducible rfl
  (try simp only [Act.put, Array.getInternal_eq_getElem, List.getElem_toArray, List.getElem_cons_succ, List.getElem_cons_zero, List.setIfInBounds_toArray, List.set_cons_zero, List.set_cons_succ])
  refine wpAnyH_take (i := 7) (v := ?_) rfl (by kernel_rfl) (by kernel_rfl) (by kernel_rfl) (fun _ _ _ h => h) (Or.inl ⟨by rfl, ?_⟩) (by assumption) ?_
  rotate_left
  · intro w hSw; (try dsimp only at hSw); go_simp; first | done | with_reducible rfl
  (try simp only [Act.put, Array.getInternal_eq_getElem, List.getElem_toArray, List.getElem_cons_succ, List.getElem_cons_zero, List.setIfInBounds_toArray, List.set_cons_zero, List.set_cons_succ])
  refine wpAnyH_take (i := 8) (v := ?_) rfl (by kernel_rfl) (by kernel_rfl) (by kernel_rfl) (fun _ _ _ h => h) (Or.inl ⟨by rfl, ?_⟩) (by assumption) ?_
  rotate_left
  · intro w hSw; (try dsimp only at hSw); go_simp; first | done | with_reducible rfl
  (try simp only [Act.put, Array.getInternal_eq_getElem, List.getElem_toArray, List.getElem_cons_succ, List.getElem_cons_zero, List.setIfInBounds_toArray, List.set_cons_zero, List.set_cons_succ])
  refine wpAnyH_take (i := 9) (v := ?_) rfl (by kernel_rfl) (by kernel_rfl) (by kernel_rfl) (fun _ _ _ h => h) (Or.inl ⟨by rfl, ?_⟩) (by assumption) ?_
  rotate_left
  · intro w hSw; (try dsimp only at hSw); go_simp; first | done | with_reducible rfl
  (try simp only [Act.put, Array.getInternal_eq_getElem, List.getElem_toArray, List.getElem_cons_succ, List.getElem_cons_zero, List.setIfInBounds_toArray, List.set_cons_zero, List.set_cons_succ])
  refine wpAnyH_take (i := 10) (v := ?_) rfl (by kernel_rfl) (by kernel_rfl) (by kernel_rfl) (fun _ _ _ h => h) (Or.inl ⟨by rfl, ?_⟩) (by assumption) ?_
  rotate_left
  · intro w hSw; (try dsimp only at hSw); go_simp; first | done | with_reducible rfl
  (try simp only [Act.put, Array.getInternal_eq_getElem, List.getElem_toArray, List.getElem_cons_succ, List.getElem_cons_zero, List.setIfInBounds_toArray, List.set_cons_zero, List.set_cons_succ])
  refine wpAnyH_done (by kernel_rfl) ?_ _
  clear hHeld
  go_wp2_with (first
    | ((with_reducible refine wpList_alloc_one 58 (.slice none 0 0) zeroInts rfl (some 7) ?hgd ?ho ?hd ?_); (case hgd => rfl); (case ho => rfl); (case hd => rfl); (intro b7 wk l7 B7 e7 z7; have q4 := (HJwj.out.below e7 (Nat.lt_of_lt_of_le HJwj.out.lt l7)).cell (i := 4) rfl))
    | fail)
  have hw0 := HBEwj.out.size
  have HL7 := Lib.hid (Nat.le_trans hw0 l7)
  have hb7 : Below wj.heap.size wj wk := e7.mono l7
  have HJwk := Lib.hid (HJwj.out.below hb7 HJwj.out.lt)
  have HDwk := Lib.hid (HDwj.out.below hb7)
  have HBEwk := Lib.hid (HBEwj.out.trans (hb7.mono HBEwj.out.size))
  have HB7wk := Lib.hid B7
  clear q4 l7 B7 e7 z7 hb7 hw0
  refine (slotsStale_walk ep (d.shown 2) (d.shown 3) _ HEP.out HST.out).mono ?_
  rintro e wl ⟨rfl, hbl⟩
  have HJwl := Lib.hid (HJwk.out.below hbl HJwk.out.lt)
  have HB7wl := Lib.hid (HB7wk.out.below hbl HB7wk.out.lt)
  have HDwl := Lib.hid (HDwk.out.below hbl)
  have HBEwl := Lib.hid (HBEwk.out.trans (hbl.mono HBEwk.out.size))
  clear hbl
  go_wp2_with fail
  go_loopw [41] (fun v wr => v = .int .i64 0 ∧ wl = wr) (fun _ _ => 0)
  case atStart => exact ⟨rfl, rfl⟩
  case round =>
    obtain ⟨rfl, rfl⟩ := hrel
    go_wp2_with fail
    refine wp_region_held_drew (S := fun wx => wx.cell? ⟨jb, 1, none⟩ = some (.pointer (some ⟨db, 0, none⟩)) ∧ wx.cell? ⟨jb, 3, none⟩ = some (.int .i64 (t : Int)) ∧ wx.cell? ⟨jb, 6, none⟩ = some (.int .i64 (n : Int))) (by kernel_rfl) (⟨HJwl.out.drew.cell (i := 1) rfl, HJwl.out.drew.cell (i := 3) rfl, HJwl.out.drew.cell (i := 6) rfl⟩) (fun hHeld => ?_)
    obtain ⟨wn, hwn⟩ : ∃ wn, wn = wl.drew := ⟨_, rfl⟩
    have HJwn := Lib.hid (show Blk wn jb (jourCells sv db (⟨gen, (t : Int), (ep : Int), clock, ⟨(n : Int), lbas, first⟩⟩ : SupD)) 137 from by rw [hwn]; exact HJwl.out.drew)
    have HDwn := Lib.hid (show DiskAt wn db d from by rw [hwn]; exact HDwl.out.below (Below.refl _ _).drew)
    have HBEwn := Lib.hid (show Below w.heap.size w wn from by rw [hwn]; exact HBEwl.out.drew)
    have HB7wn := Lib.hid (show Blk wn b7 [.slice none 0 0] 58 from by rw [hwn]; exact HB7wl.out.drew)
    rw [← hwn]
    rw [← hwn] at hHeld
    clear hwn
    refine wpAnyH_take (i := 0) (v := ?_) rfl (by kernel_rfl) (by kernel_rfl) (by kernel_rfl) (fun _ _ _ h => h) (Or.inl ⟨by rfl, ?_⟩) (by assumption) ?_
    rotate_left
    · intro w hSw; (try dsimp only at hSw); go_simp; first | done | with_reducible rfl
    (try simp only [Act.put, Array.getInternal_eq_getElem, List.getElem_toArray, List.getElem_cons_succ, List.getElem_cons_zero, List.setIfInBounds_toArray, List.set_cons_zero, List.set_cons_succ])
    refine wpAnyH_take (i := 1) (v := ?_) rfl (by kernel_rfl) (by kernel_rfl) (by kernel_rfl) (fun _ _ _ h => h) (Or.inl ⟨by rfl, ?_⟩) (by assumption) ?_
    rotate_left
    · intro w hSw; (try dsimp only at hSw); go_simp; first | done | with_reducible rfl
    (try simp only [Act.put, Array.getInternal_eq_getElem, List.getElem_toArray, List.getElem_cons_succ, List.getElem_cons_zero, List.setIfInBounds_toArray, List.set_cons_zero, List.set_cons_succ])
    refine wpAnyH_take (i := 2) (v := ?_) rfl (by kernel_rfl) (by kernel_rfl) (by kernel_rfl) (fun _ _ _ h => h) (Or.inl ⟨by rfl, ?_⟩) (by assumption) ?_
    rotate_left
    · intro w hSw; (try dsimp only at hSw); go_simp; first | done | with_reducible rfl
    (try simp only [Act.put, Array.getInternal_eq_getElem, List.getElem_toArray, List.getElem_cons_succ, List.getElem_cons_zero, List.setIfInBounds_toArray, List.set_cons_zero, List.set_cons_succ])
    refine wpAnyH_take (i := 3) (v := ?_) rfl (by kernel_rfl) (by kernel_rfl) (by kernel_rfl) (fun _ _ _ h => h) (Or.inl ⟨by rfl, ?_⟩) (by assumption) ?_
    rotate_left
    · intro w hSw; (try dsimp only at hSw); go_simp; first | done | with_reducible rfl
    (try simp only [Act.put, Array.getInternal_eq_getElem, List.getElem_toArray, List.getElem_cons_succ, List.getElem_cons_zero, List.setIfInBounds_toArray, List.set_cons_zero, List.set_cons_succ])
    refine wpAnyH_take (i := 4) (v := ?_) rfl (by kernel_rfl) (by kernel_rfl) (by kernel_rfl) (fun _ _ _ h => h) (Or.inl ⟨by rfl, ?_⟩) (by assumption) ?_
    rotate_left
    · intro w hSw; (try dsimp only at hSw); go_simp; first | done | with_reducible rfl
    (try simp only [Act.put, Array.getInternal_eq_getElem, List.getElem_toArray, List.getElem_cons_succ, List.getElem_cons_zero, List.setIfInBounds_toArray, List.set_cons_zero, List.set_cons_succ])
    refine wpAnyH_take (i := 6) (v := ?_) rfl (by kernel_rfl) (by kernel_rfl) (by kernel_rfl) (fun _ _ _ h => h) (Or.inl ⟨by rfl, ?_⟩) (by assumption) ?_
    rotate_left
    · intro w hSw; (try dsimp only at hSw); go_simp; first | done | with_reducible rfl
    (try simp only [Act.put, Array.getInternal_eq_getElem, List.getElem_toArray, List.getElem_cons_succ, List.getElem_cons_zero, List.setIfInBounds_toArray, List.set_cons_zero, List.set_cons_succ])
    refine wpAnyH_take (i := 7) (v := ?_) rfl (by kernel_rfl) (by kernel_rfl) (by kernel_rfl) (fun _ _ _ h => h) (Or.inl ⟨by rfl, ?_⟩) (by assumption) ?_
    rotate_left
    · intro w hSw; (try dsimp only at hSw); go_simp; first | done | with_reducible rfl
    (try simp only [Act.put, Array.getInternal_eq_getElem, List.getElem_toArray, List.getElem_cons_succ, List.getElem_cons_zero, List.setIfInBounds_toArray, List.set_cons_zero, List.set_cons_succ])
    refine wpAnyH_take (i := 8) (v := ?_) rfl (by kernel_rfl) (by kernel_rfl) (by kernel_rfl) (fun _ _ _ h => h) (Or.inl ⟨by rfl, ?_⟩) (by assumption) ?_
    rotate_left
    · intro w hSw; (try dsimp only at hSw); go_simp; first | done | with_reducible rfl
    (try simp only [Act.put, Array.getInternal_eq_getElem, List.getElem_toArray, List.getElem_cons_succ, List.getElem_cons_zero, List.setIfInBounds_toArray, List.set_cons_zero, List.set_cons_succ])
    refine wpAnyH_take (i := 9) (v := ?_) rfl (by kernel_rfl) (by kernel_rfl) (by kernel_rfl) (fun _ _ _ h => h) (Or.inl ⟨by rfl, ?_⟩) (by assumption) ?_
    rotate_left
    · intro w hSw; (try dsimp only at hSw); go_simp; first | done | with_reducible rfl
    (try simp only [Act.put, Array.getInternal_eq_getElem, List.getElem_toArray, List.getElem_cons_succ, List.getElem_cons_zero, List.setIfInBounds_toArray, List.set_cons_zero, List.set_cons_succ])
    refine wpAnyH_take (i := 10) (v := ?_) rfl (by kernel_rfl) (by kernel_rfl) (by kernel_rfl) (fun _ _ _ h => h) (Or.inl ⟨by rfl, ?_⟩) (by assumption) ?_
    rotate_left
    · intro w hSw; (try dsimp only at hSw); go_simp; first | done | with_reducible rfl
    (try simp only [Act.put, Array.getInternal_eq_getElem, List.getElem_toArray, List.getElem_cons_succ, List.getElem_cons_zero, List.setIfInBounds_toArray, List.set_cons_zero, List.set_cons_succ])
    refine wpAnyH_take (i := 12) (v := ?_) rfl (by kernel_rfl) (by kernel_rfl) (by kernel_rfl) (fun _ _ _ h => h) (Or.inl ⟨by rfl, ?_⟩) (by assumption) ?_
    rotate_left
    · intro w hSw; (try dsimp only at hSw); go_simp; first | done | with_reducible rfl
    (try simp only [Act.put, Array.getInternal_eq_getElem, List.getElem_toArray, List.getElem_cons_succ, List.getElem_cons_zero, List.setIfInBounds_toArray, List.set_cons_zero, List.set_cons_succ])
    refine wpAnyH_take (i := 13) (v := ?_) rfl (by kernel_rfl) (by kernel_rfl) (by kernel_rfl) (fun _ _ _ h => h) (Or.inl ⟨by rfl, ?_⟩) (by assumption) ?_
    rotate_left
    · intro w hSw; (try dsimp only at hSw); go_simp; first | done | with_reducible rfl
    (try simp only [Act.put, Array.getInternal_eq_getElem, List.getElem_toArray, List.getElem_cons_succ, List.getElem_cons_zero, List.setIfInBounds_toArray, List.set_cons_zero, List.set_cons_succ])
    refine wpAnyH_take (i := 14) (v := ?_) rfl (by kernel_rfl) (by kernel_rfl) (by kernel_rfl) (fun _ _ _ h => h) (Or.inl ⟨by rfl, ?_⟩) (by assumption) ?_
    rotate_left
    · intro w hSw; (try dsimp only at hSw); go_simp; first | done | with_reducible rfl
    (try simp only [Act.put, Array.getInternal_eq_getElem, List.getElem_toArray, List.getElem_cons_succ, List.getElem_cons_zero, List.setIfInBounds_toArray, List.set_cons_zero, List.set_cons_succ])
    refine wpAnyH_take (i := 15) (v := ?_) rfl (by kernel_rfl) (by kernel_rfl) (by kernel_rfl) (fun _ _ _ h => h) (Or.inl ⟨by rfl, ?_⟩) (by assumption) ?_
    rotate_left
    · intro w hSw; (try dsimp only at hSw); go_simp; first | done | with_reducible rfl
    (try simp only [Act.put, Array.getInternal_eq_getElem, List.getElem_toArray, List.getElem_cons_succ, List.getElem_cons_zero, List.setIfInBounds_toArray, List.set_cons_zero, List.set_cons_succ])
    refine wpAnyH_take (i := 16) (v := ?_) rfl (by kernel_rfl) (by kernel_rfl) (by kernel_rfl) (fun _ _ _ h => h) (Or.inl ⟨by rfl, ?_⟩) (by assumption) ?_
    rotate_left
    · intro w hSw; (try dsimp only at hSw); go_simp; first | done | with_reducible rfl
    (try simp only [Act.put, Array.getInternal_eq_getElem, List.getElem_toArray, List.getElem_cons_succ, List.getElem_cons_zero, List.setIfInBounds_toArray, List.set_cons_zero, List.set_cons_succ])
    refine wpAnyH_take (i := 17) (v := ?_) rfl (by kernel_rfl) (by kernel_rfl) (by kernel_rfl) (fun _ _ _ h => h) (Or.inl ⟨by rfl, ?_⟩) (by assumption) ?_
    rotate_left
    · intro w hSw; (try dsimp only at hSw); go_simp; first | done | with_reducible rfl
    (try simp only [Act.put, Array.getInternal_eq_getElem, List.getElem_toArray, List.getElem_cons_succ, List.getElem_cons_zero, List.setIfInBounds_toArray, List.set_cons_zero, List.set_cons_succ])
    refine wpAnyH_ready (rs := [5]) (by kernel_rfl) (by simp) ?_
    refine AllReadyH.cons rfl (fun K hK => ?_) AllReadyH.nil
    go_simp
    refine (place_walk jb db sv (⟨gen, (t : Int), (ep : Int), clock, ⟨(n : Int), lbas, first⟩⟩ : SupD) 0 _ HJwn.out HG.out (by decide) (by show (0 : Int) < (n : Int) - 4; have := HN.out; omega)).mono ?_
    rintro e wo ⟨rfl, hbo⟩
    have HJwo := Lib.hid (HJwn.out.below hbo HJwn.out.lt)
    have HB7wo := Lib.hid (HB7wn.out.below hbo HB7wn.out.lt)
    have HDwo := Lib.hid (HDwn.out.below hbo)
    have HBEwo := Lib.hid (HBEwn.out.trans (hbo.mono HBEwn.out.size))
    clear hbo
    (try go_wp2_with fail)
    refine hK.out _ _ (⟨HJwo.out.cell (i := 1) rfl, HJwo.out.cell (i := 3) rfl, HJwo.out.cell (i := 6) rfl⟩) (fun hHeld2 => ?_)
    clear hK K hHeld
    have hHeld := hHeld2
    clear hHeld2
    (try simp only [Act.put, Array.getInternal_eq_getElem, List.getElem_toArray, List.getElem_cons_succ, List.getElem_cons_zero, List.setIfInBounds_toArray, List.set_cons_zero, List.set_cons_succ])
    refine wpAnyH_take (i := 11) (v := ?_) rfl (by kernel_rfl) (by kernel_rfl) (by kernel_rfl) (fun _ _ _ h => h) (Or.inl ⟨by rfl, ?_⟩) (by assumption) ?_
    rotate_left
    · intro w hSw; (try dsimp only at hSw); go_simp; first | done | with_reducible rfl
    (try simp only [Act.put, Array.getInternal_eq_getElem, List.getElem_toArray, List.getElem_cons_succ, List.getElem_cons_zero, List.setIfInBounds_toArray, List.set_cons_zero, List.set_cons_succ])
    refine wpAnyH_ready (rs := [18]) (by kernel_rfl) (by simp) ?_
    refine AllReadyH.cons rfl (fun K hK => ?_) AllReadyH.nil
    go_simp
    refine (unlike_walk db _ _ _).mono ?_
    rintro e wp ⟨⟨pf, pt, pd, rfl, hu⟩, hbp⟩
    have HJwp := Lib.hid (HJwo.out.below hbp HJwo.out.lt)
    have HB7wp := Lib.hid (HB7wo.out.below hbp HB7wo.out.lt)
    have HDwp := Lib.hid (HDwo.out.below hbp)
    have HBEwp := Lib.hid (HBEwo.out.trans (hbp.mono HBEwo.out.size))
    have HU := Lib.hid hu
    clear hu hbp
    (try go_wp2_with fail)
    refine hK.out _ _ (⟨HJwp.out.cell (i := 1) rfl, HJwp.out.cell (i := 3) rfl, HJwp.out.cell (i := 6) rfl⟩) (fun hHeld2 => ?_)
    clear hK K hHeld
    have hHeld := hHeld2
    clear hHeld2
    (try simp only [Act.put, Array.getInternal_eq_getElem, List.getElem_toArray, List.getElem_cons_succ, List.getElem_cons_zero, List.setIfInBounds_toArray, List.set_cons_zero, List.set_cons_succ])
    refine wpAnyH_done (by kernel_rfl) ?_ _
    clear hHeld

    go_wp2_with fail
    refine wp_rangeFunc_none rfl (enters_of Tryz.func261 (by kernel_rfl) rfl) ?_ ?_
    · intro l W hW
      have hu0 := HU.out.below hW
      have e4 : IntKind.i64.wrap (4 + (t : Int)) = (((4 + t : Nat)) : Int) := by rw [IntWalk.i64_in _ (by have := HT.out; have := HN.out; have := HB.out; omega)]; omega
      rw [e4] at hu0
      exact (unlike1_walk _ db pf pt pd d (4 + t) n W (HDwp.out.below hW) hu0 HT.out (by rw [HN.out.2]; exact Nat.le_refl _) HDN.out HC.out HB.out HSH.out).mono (fun e W' h => ⟨⟨_, h.1⟩, h.2⟩)
    intro D wq hD hbq hkq
    have HB7wq := Lib.hid (HB7wp.out.below hbq HB7wp.out.lt)
    have HBEwq := Lib.hid (HBEwp.out.trans (hbq.mono HBEwp.out.size))
    have HLD := Lib.hid (Nat.le_trans HBEwp.out.size hD)
    have HKQ := Lib.hid hkq
    have c7 := HB7wq.out.cell (i := 0) rfl
    clear hD hbq hkq
    go_wp2_with fail
    go_loopw [77] (fun v wr => v = .int .i64 0 ∧ wq = wr) (fun _ _ => 0)
    case atStart => exact ⟨rfl, rfl⟩
    case round =>
      obtain ⟨rfl, rfl⟩ := hrel
      go_wp2_with fail
      refine ⟨by simp, .inl ⟨_, _, rfl, run_takeDeferred HKQ.out, ?_⟩⟩
      refine ⟨.int .i64 0, ?_, rfl, HBEwq.out.grown (grownBy_putObj' wq D (.deferred none)) HBEwq.out.size (fun k e => by cases e; exact HLD.out)⟩
      simp [results, Tryz.f264, go_sem]
end Go.Proofs.YtppdboadjefieaaGreat
