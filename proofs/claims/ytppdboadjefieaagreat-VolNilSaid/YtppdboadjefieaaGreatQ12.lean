/- place and right (chapter 25), of a disk that is right. Walks of octet.Cut and octet.Unpack (chapter 1). The shape of a shape's bytes (chapter 9): Take. -/
import Derived.Test.YtppdboadjefieaaGreatQ11
import Derived.IntWalk
import Derived.Test.YtppdboadjefieaaGreatQ6
import Derived.Test.YtppdboadjefieaaGreatQ7
import Derived.Test.YtppdboadjefieaaGreatQ2
import Derived.Deep.RegionLaw
import Derived.Deep.DeepAppendWide
import Derived.Deep.RegionWith
import Derived.Deep.QuietTactic
import Derived.BigQuiet
import Derived.Deep.RegionHeld3
set_option linter.unusedSimpArgs false
set_option linter.unusedVariables false
namespace Go.Proofs.YtppdboadjefieaaGreat
open Go Go.RowKit
set_option maxRecDepth 100000

theorem place_walk (jb db : Nat) (sv : Value) (last : SupD) (i : Int) (w : World) (h : Blk w jb (jourCells sv db last) 137) (hg : GeoOk last.geo) (h0 : 0 ≤ i) (h1 : i < last.geo.blocks - 4) :
    Calls Tryz.prog 149 #[.pointer (some ⟨jb, 0, none⟩), .int .i64 i] w fun e w' => e = .returned (.int .i64 (4 + i)) ∧ Below w.heap.size w w' := by
  have hr : w.rangeAt jb 6 last.geo.cells := by
    intro j v hv
    match j, hv with
    | 0, hv => simp [GeoD.cells] at hv; subst hv; exact h.cell (i := 6) rfl
    | 1, hv => simp [GeoD.cells] at hv; subst hv; exact h.cell (i := 7) rfl
    | 2, hv => simp [GeoD.cells] at hv; subst hv; exact h.cell (i := 8) rfl
    | j + 3, hv => simp [GeoD.cells] at hv
  go_enter Tryz.func149, Tryz.ntmps149
  go_wp2_with (first
    | ((with_reducible refine wpList_load_met 23 (.tmp 11) jb 6 last.geo.cells _ (some 12) hr Tryz.underlying23 rfl sizeGeo ?hg ?ho ?hds ?hx ?_); (case ho | hg | hds | hx => rfl))
    | fail)
  refine (geomPlace_walk last.geo i _ hg h0 h1).mono ?_
  rintro e w1 ⟨rfl, hb⟩
  go_wp2_with fail
  go_ret
  exact ⟨rfl, hb⟩
set_option maxHeartbeats 4000000 in
theorem jright_walk (jb db n t ep : Nat) (sv : Value) (gen clock lbas first : Int) (d : DiskD) (w : World) (h : DiskAt w db d) (hj : Blk w jb (jourCells sv db (⟨gen, (t : Int), (ep : Int), clock, ⟨(n : Int), lbas, first⟩⟩ : SupD)) 137) (hg : GeoOk ⟨(n : Int), lbas, first⟩)
    (hd : d.down = false) (hc : d.cs.length ≤ 4096) (hb : d.bs.length ≤ 1024) (hn : d.bs.length = n) (hep : ep < 4294967296) (ht : 4 + t ≤ n) (hsh : ∀ i, 4 + t ≤ i → i < n → d.shown i = (⟨(List.replicate 4096 0).toArray⟩ : ByteArray)) (hst : (if ep % 2 = 0 then d.shown 3 else d.shown 2) = (⟨(List.replicate 4096 0).toArray⟩ : ByteArray)) :
    Calls Tryz.prog 264 #[.pointer (some ⟨jb, 0, none⟩)] w fun e w' => e = .returned (.int .i64 0) ∧ Below w.heap.size w w' := by
  have hmf : ∀ (fn : Fn) (first cap : Array Value) (w : World), (Instr.makeFunc fn first cap).run Tryz.prog w = .ok (.func fn first cap) w := fun _ _ _ _ => rfl
  have HDw := Lib.hid h
  have HJw := Lib.hid hj
  have HG := Lib.hid hg
  have HDN := Lib.hid hd
  have HC := Lib.hid hc
  have HB := Lib.hid hb
  have HN := Lib.hid (show 8 ≤ n ∧ d.bs.length = n from ⟨by have := hg.b0; simp only at this; omega, hn⟩)
  have HEP := Lib.hid hep
  have HT := Lib.hid ht
  have HSH := Lib.hid hsh
  have HST := Lib.hid hst
  have HBEw := Lib.hid (Below.refl w.heap.size w)
  clear h hj hg hd hc hb hn hep ht hsh hst
  refine calls_marks Tryz.func264 rfl ?_
  simp only [Tryz.ntmps264, List.size_toArray, List.length_cons, List.length_nil, Nat.reduceAdd, Nat.reduceSub, Array.replicate_succ, Array.replicate_zero, List.push_toArray, List.append_toArray, List.nil_append, List.cons_append]
  go_wp2_with fail
  refine wp_region_held_drew (S := fun wx => wx.cell? ⟨jb, 1, none⟩ = some (.pointer (some ⟨db, 0, none⟩)) ∧ wx.cell? ⟨jb, 3, none⟩ = some (.int .i64 (t : Int)) ∧ wx.cell? ⟨jb, 6, none⟩ = some (.int .i64 (n : Int))) (by kernel_rfl) (⟨HJw.out.drew.cell (i := 1) rfl, HJw.out.drew.cell (i := 3) rfl, HJw.out.drew.cell (i := 6) rfl⟩) (fun hHeld => ?_)
  obtain ⟨wi, hwi⟩ : ∃ wi, wi = w.drew := ⟨_, rfl⟩
  have HJwi := Lib.hid (show Blk wi jb (jourCells sv db (⟨gen, (t : Int), (ep : Int), clock, ⟨(n : Int), lbas, first⟩⟩ : SupD)) 137 from by rw [hwi]; exact HJw.out.drew)
  have HDwi := Lib.hid (show DiskAt wi db d from by rw [hwi]; exact HDw.out.below (Below.refl _ _).drew)
  have HBEwi := Lib.hid (show Below w.heap.size w wi from by rw [hwi]; exact HBEw.out.drew)
  rw [← hwi]
  rw [← hwi] at hHeld
  clear hwi
  refine wpAnyH_take (i := 0) (v := ?_) rfl (by kernel_rfl) (by kernel_rfl) (by kernel_rfl) (fun _ _ _ h => h) (Or.inl ⟨by rfl, ?_⟩) (by assumption) ?_
  rotate_left
  · intro w hSw; (try dsimp only at hSw); go_simp; first | done | with_reducible rfl
  (try simp only [Act.put, Array.getInternal_eq_getElem, List.getElem_toArray, List.getElem_cons_succ, List.getElem_cons_zero, List.setIfInBounds_toArray, List.set_cons_zero, List.set_cons_succ])
  refine wpAnyH_take (i := 1) (v := ?_) rfl (by kernel_rfl) (by kernel_rfl) (by kernel_rfl) (fun _ _ _ h => h) (Or.inl ⟨by rfl, ?_⟩) (by assumption) ?_
  rotate_left
  · intro w hSw; (try dsimp only at hSw); go_simp; first | done | with_reducible rfl
  (try simp only [Act.put, Array.getInternal_eq_getElem, List.getElem_toArray, List.getElem_cons_succ, List.getElem_cons_zero, List.setIfInBounds_toArray, List.set_cons_zero, List.set_cons_succ])
  refine wpAnyH_take (i := 2) (v := ?_) rfl (by kernel_rfl) (by kernel_rfl) (by kernel_rfl) (fun _ _ _ h => h) (Or.inl ⟨by rfl, ?_⟩) (by assumption) ?_
  rotate_left
  · intro w hSw; (try dsimp only at hSw); go_simp; first | done | with_reducible rfl
  (try simp only [Act.put, Array.getInternal_eq_getElem, List.getElem_toArray, List.getElem_cons_succ, List.getElem_cons_zero, List.setIfInBounds_toArray, List.set_cons_zero, List.set_cons_succ])
  refine wpAnyH_take (i := 3) (v := ?_) rfl (by kernel_rfl) (by kernel_rfl) (by kernel_rfl) (fun _ _ _ h => h) (Or.inl ⟨by rfl, ?_⟩) (by assumption) ?_
  rotate_left
  · intro w hSw; (try dsimp only at hSw); go_simp; first | done | with_reducible rfl
  (try simp only [Act.put, Array.getInternal_eq_getElem, List.getElem_toArray, List.getElem_cons_succ, List.getElem_cons_zero, List.setIfInBounds_toArray, List.set_cons_zero, List.set_cons_succ])
  refine wpAnyH_ready (rs := [4]) (by kernel_rfl) (by simp) ?_
  refine AllReadyH.cons rfl (fun K hK => ?_) AllReadyH.nil
  go_simp
  refine (geomKey_walk 0 _ (by decide)).mono ?_
  rintro e w' ⟨rfl, rfl⟩
  (try go_wp2_with fail)
  refine hK.out _ _ (⟨HJwi.out.cell (i := 1) rfl, HJwi.out.cell (i := 3) rfl, HJwi.out.cell (i := 6) rfl⟩) (fun hHeld2 => ?_)
  clear hK K hHeld
  have hHeld := hHeld2
  clear hHeld2
  (try simp only [Act.put, Array.getInternal_eq_getElem, List.getElem_toArray, List.getElem_cons_succ, List.getElem_cons_zero, List.setIfInBounds_toArray, List.set_cons_zero, List.set_cons_succ])
  refine wpAnyH_ready (rs := [5]) (by kernel_rfl) (by simp) ?_
  refine AllReadyH.cons rfl (fun K hK => ?_) AllReadyH.nil
  go_simp
  refine (dread_walk db d _ HDwi.out HDN.out 2 (by have := HN.out; omega) HC.out HB.out).mono ?_
  rintro e w' ⟨rfl, rfl⟩
  (try go_wp2_with fail)
  refine hK.out _ _ (⟨HJwi.out.cell (i := 1) rfl, HJwi.out.cell (i := 3) rfl, HJwi.out.cell (i := 6) rfl⟩) (fun hHeld2 => ?_)
  clear hK K hHeld
  have hHeld := hHeld2
  clear hHeld2
  (try simp only [Act.put, Array.getInternal_eq_getElem, List.getElem_toArray, List.getElem_cons_succ, List.getElem_cons_zero, List.setIfInBounds_toArray, List.set_cons_zero, List.set_cons_succ])
  refine wpAnyH_take (i := 6) (v := ?_) rfl (by kernel_rfl) (by kernel_rfl) (by kernel_rfl) (fun _ _ _ h => h) (Or.inl ⟨by rfl, ?_⟩) (by assumption) ?_
  rotate_left
  · intro w hSw; (try dsimp only at hSw); go_simp; first | done | with_reducible rfl
  (try simp only [Act.put, Array.getInternal_eq_getElem, List.getElem_toArray, List.getElem_cons_succ, List.getElem_cons_zero, List.setIfInBounds_toArray, List.set_cons_zero, List.set_cons_succ])
  refine wpAnyH_take (i := 7) (v := ?_) rfl (by kernel_rfl) (by kernel_rfl) (by kernel_rfl) (fun _ _ _ h => h) (Or.inl ⟨by rfl, ?_⟩) (by assumption) ?_
  rotate_left
  · intro w hSw; (try dsimp only at hSw); go_simp; first | done | with_reducible rfl
  (try simp only [Act.put, Array.getInternal_eq_getElem, List.getElem_toArray, List.getElem_cons_succ, List.getElem_cons_zero, List.setIfInBounds_toArray, List.set_cons_zero, List.set_cons_succ])
  refine wpAnyH_take (i := 8) (v := ?_) rfl (by kernel_rfl) (by kernel_rfl) (by kernel_rfl) (fun _ _ _ h => h) (Or.inl ⟨by rfl, ?_⟩) (by assumption) ?_
  rotate_left
  · intro w hSw; (try dsimp only at hSw); go_simp; first | done | with_reducible rfl
  (try simp only [Act.put, Array.getInternal_eq_getElem, List.getElem_toArray, List.getElem_cons_succ, List.getElem_cons_zero, List.setIfInBounds_toArray, List.set_cons_zero, List.set_cons_succ])
  refine wpAnyH_take (i := 9) (v := ?_) rfl (by kernel_rfl) (by kernel_rfl) (by kernel_rfl) (fun _ _ _ h => h) (Or.inl ⟨by rfl, ?_⟩) (by assumption) ?_
  rotate_left
  · intro w hSw; (try dsimp only at hSw); go_simp; first | done | with_reducible rfl
  (try simp only [Act.put, Array.getInternal_eq_getElem, List.getElem_toArray, List.getElem_cons_succ, List.getElem_cons_zero, List.setIfInBounds_toArray, List.set_cons_zero, List.set_cons_succ])
  refine wpAnyH_take (i := 10) (v := ?_) rfl (by kernel_rfl) (by kernel_rfl) (by kernel_rfl) (fun _ _ _ h => h) (Or.inl ⟨by rfl, ?_⟩) (by assumption) ?_
  rotate_left
  · intro w hSw; (try dsimp only at hSw); go_simp; first | done | with_reducible rfl
  (try simp only [Act.put, Array.getInternal_eq_getElem, List.getElem_toArray, List.getElem_cons_succ, List.getElem_cons_zero, List.setIfInBounds_toArray, List.set_cons_zero, List.set_cons_succ])
  refine wpAnyH_done (by kernel_rfl) ?_ _
  clear hHeld
  go_wp2_with fail
  refine wp_region_held_drew (S := fun wx => wx.cell? ⟨jb, 1, none⟩ = some (.pointer (some ⟨db, 0, none⟩)) ∧ wx.cell? ⟨jb, 3, none⟩ = some (.int .i64 (t : Int)) ∧ wx.cell? ⟨jb, 6, none⟩ = some (.int .i64 (n : Int))) (by kernel_rfl) (⟨HJwi.out.drew.cell (i := 1) rfl, HJwi.out.drew.cell (i := 3) rfl, HJwi.out.drew.cell (i := 6) rfl⟩) (fun hHeld => ?_)
  obtain ⟨wj, hwj⟩ : ∃ wj, wj = wi.drew := ⟨_, rfl⟩
  have HJwj := Lib.hid (show Blk wj jb (jourCells sv db (⟨gen, (t : Int), (ep : Int), clock, ⟨(n : Int), lbas, first⟩⟩ : SupD)) 137 from by rw [hwj]; exact HJwi.out.drew)
  have HDwj := Lib.hid (show DiskAt wj db d from by rw [hwj]; exact HDwi.out.below (Below.refl _ _).drew)
  have HBEwj := Lib.hid (show Below w.heap.size w wj from by rw [hwj]; exact HBEwi.out.drew)
  rw [← hwj]
  rw [← hwj] at hHeld
  clear hwj
  refine wpAnyH_take (i := 0) (v := ?_) rfl (by kernel_rfl) (by kernel_rfl) (by kernel_rfl) (fun _ _ _ h => h) (Or.inl ⟨by rfl, ?_⟩) (by assumption) ?_
  rotate_left
  · intro w hSw; (try dsimp only at hSw); go_simp; first | done | with_reducible rfl
  (try simp only [Act.put, Array.getInternal_eq_getElem, List.getElem_toArray, List.getElem_cons_succ, List.getElem_cons_zero, List.setIfInBounds_toArray, List.set_cons_zero, List.set_cons_succ])
  refine wpAnyH_take (i := 1) (v := ?_) rfl (by kernel_rfl) (by kernel_rfl) (by kernel_rfl) (fun _ _ _ h => h) (Or.inl ⟨by rfl, ?_⟩) (by assumption) ?_
  rotate_left
  · intro w hSw; (try dsimp only at hSw); go_simp; first | done | with_reducible rfl
  (try simp only [Act.put, Array.getInternal_eq_getElem, List.getElem_toArray, List.getElem_cons_succ, List.getElem_cons_zero, List.setIfInBounds_toArray, List.set_cons_zero, List.set_cons_succ])
  refine wpAnyH_take (i := 2) (v := ?_) rfl (by kernel_rfl) (by kernel_rfl) (by kernel_rfl) (fun _ _ _ h => h) (Or.inl ⟨by rfl, ?_⟩) (by assumption) ?_
  rotate_left
  · intro w hSw; (try dsimp only at hSw); go_simp; first | done | with_reducible rfl
  (try simp only [Act.put, Array.getInternal_eq_getElem, List.getElem_toArray, List.getElem_cons_succ, List.getElem_cons_zero, List.setIfInBounds_toArray, List.set_cons_zero, List.set_cons_succ])
  refine wpAnyH_take (i := 3) (v := ?_) rfl (by kernel_rfl) (by kernel_rfl) (by kernel_rfl) (fun _ _ _ h => h) (Or.inl ⟨by rfl, ?_⟩) (by assumption) ?_
  rotate_left
  · intro w hSw; (try dsimp only at hSw); go_simp; first | done | with_reducible rfl
  (try simp only [Act.put, Array.getInternal_eq_getElem, List.getElem_toArray, List.getElem_cons_succ, List.getElem_cons_zero, List.setIfInBounds_toArray, List.set_cons_zero, List.set_cons_succ])
  refine wpAnyH_ready (rs := [4]) (by kernel_rfl) (by simp) ?_
  refine AllReadyH.cons rfl (fun K hK => ?_) AllReadyH.nil
  go_simp
  refine (geomKey_walk 1 _ (by decide)).mono ?_
  rintro e w' ⟨rfl, rfl⟩
  (try go_wp2_with fail)
  refine hK.out _ _ (⟨HJwj.out.cell (i := 1) rfl, HJwj.out.cell (i := 3) rfl, HJwj.out.cell (i := 6) rfl⟩) (fun hHeld2 => ?_)
  clear hK K hHeld
  have hHeld := hHeld2
  clear hHeld2
  (try simp only [Act.put, Array.getInternal_eq_getElem, List.getElem_toArray, List.getElem_cons_succ, List.getElem_cons_zero, List.setIfInBounds_toArray, List.set_cons_zero, List.set_cons_succ])
  refine wpAnyH_ready (rs := [5]) (by kernel_rfl) (by simp) ?_
  refine AllReadyH.cons rfl (fun K hK => ?_) AllReadyH.nil
  go_simp
  refine (dread_walk db d _ HDwj.out HDN.out 3 (by have := HN.out; omega) HC.out HB.out).mono ?_
  rintro e w' ⟨rfl, rfl⟩
  (try go_wp2_with fail)
  refine hK.out _ _ (⟨HJwj.out.cell (i := 1) rfl, HJwj.out.cell (i := 3) rfl, HJwj.out.cell (i := 6) rfl⟩) (fun hHeld2 => ?_)
  clear hK K hHeld
  have hHeld := hHeld2
  clear hHeld2
  (try simp only [Act.put, Array.getInternal_eq_getElem, List.getElem_toArray, List.getElem_cons_succ, List.getElem_cons_zero, List.setIfInBounds_toArray, List.set_cons_zero, List.set_cons_succ])
  refine wpAnyH_take (i := 6) (v := ?_) rfl (by kernel_rfl) (by kernel_rfl) (by kernel_rfl) (fun _ _ _ h => h) (Or.inl ⟨by rfl, ?_⟩) (by assumption) ?_
  rotate_left
  · intro w hSw; (try dsimp only at hSw); go_simp; first | done | with_reducible rfl
  (try simp only [Act.put, Array.getInternal_eq_getElem, List.getElem_toArray, List.getElem_cons_succ, List.getElem_cons_zero, List.setIfInBounds_toArray, List.set_cons_zero, List.set_cons_succ])
  refine wpAnyH_take (i := 7) (v := ?_) rfl (by kernel_rfl) (by kernel_rfl) (by kernel_rfl) (fun _ _ _ h => h) (Or.inl ⟨by rfl, ?_⟩) (by assumption) ?_
  rotate_left
  · intro w hSw; (try dsimp only at hSw); go_simp; first | done | with_reducible rfl
  (try simp only [Act.put, Array.getInternal_eq_getElem, List.getElem_toArray, List.getElem_cons_succ, List.getElem_cons_zero, List.setIfInBounds_toArray, List.set_cons_zero, List.set_cons_succ])
  refine wpAnyH_take (i := 8) (v := ?_) rfl (by kernel_rfl) (by kernel_rfl) (by kernel_rfl) (fun _ _ _ h => h) (Or.inl ⟨by rfl, ?_⟩) (by assumption) ?_
  rotate_left
  · intro w hSw; (try dsimp only at hSw); go_simp; first | done | with_reducible rfl
  (try simp only [Act.put, Array.getInternal_eq_getElem, List.getElem_toArray, List.getElem_cons_succ, List.getElem_cons_zero, List.setIfInBounds_toArray, List.set_cons_zero, List.set_cons_succ])
  refine wpAnyH_take (i := 9) (v := ?_) rfl (by kernel_rfl) (by kernel_rfl) (by kernel_rfl) (fun _ _ _ h => h) (Or.inl ⟨by rfl, ?_⟩) (by assumption) ?_
  rotate_left
  · intro w hSw; (try dsimp only at hSw); go_simp; first | done | with_reducible rfl
  (try simp only [Act.put, Array.getInternal_eq_getElem, List.getElem_toArray, List.getElem_cons_succ, List.getElem_cons_zero, List.setIfInBounds_toArray, List.set_cons_zero, List.set_cons_succ])
  refine wpAnyH_take (i := 10) (v := ?_) rfl (by kernel_rfl) (by kernel_rfl) (by kernel_rfl) (fun _ _ _ h => h) (Or.inl ⟨by rfl, ?_⟩) (by assumption) ?_
  rotate_left
  · intro w hSw; (try dsimp only at hSw); go_simp; first | done | with_reducible rfl
  (try simp only [Act.put, Array.getInternal_eq_getElem, List.getElem_toArray, List.getElem_cons_succ, List.getElem_cons_zero, List.setIfInBounds_toArray, List.set_cons_zero, List.set_cons_succ])
  refine wpAnyH_done (by kernel_rfl) ?_ _
  clear hHeld
  go_wp2_with (first
    | ((with_reducible refine wpList_alloc_one 58 (.slice none 0 0) zeroInts rfl (some 7) ?hgd ?ho ?hd ?_); (case hgd | ho | hd => rfl); (intro b7 wk l7 B7 e7 z7; have q4 := (HJwj.out.below e7 (Nat.lt_of_lt_of_le HJwj.out.lt l7)).cell (i := 4) rfl))
    | fail)
  have hw0 := HBEwj.out.size
  have HL7 := Lib.hid (Nat.le_trans hw0 l7)
  have hb7 : Below wj.heap.size wj wk := e7.mono l7
  have HJwk := Lib.hid (HJwj.out.below hb7 HJwj.out.lt)
  have HDwk := Lib.hid (HDwj.out.below hb7)
  have HBEwk := Lib.hid (HBEwj.out.trans (hb7.mono HBEwj.out.size))
  have HB7wk := Lib.hid B7
  clear q4 l7 B7 e7 z7 hb7 hw0
  refine (slotsStale_walk ep (d.shown 2) (d.shown 3) _ HEP.out HST.out).mono ?_
  rintro e wl ⟨rfl, hbl⟩
  have HJwl := Lib.hid (HJwk.out.below hbl HJwk.out.lt)
  have HB7wl := Lib.hid (HB7wk.out.below hbl HB7wk.out.lt)
  have HDwl := Lib.hid (HDwk.out.below hbl)
  have HBEwl := Lib.hid (HBEwk.out.trans (hbl.mono HBEwk.out.size))
  clear hbl
  go_wp2_with fail
  go_loopw [41] (fun v wr => v = .int .i64 0 ∧ wl = wr) (fun _ _ => 0)
  case atStart => exact ⟨rfl, rfl⟩
  case round =>
    obtain ⟨rfl, rfl⟩ := hrel
    go_wp2_with fail
    refine wp_region_held_drew (S := fun wx => wx.cell? ⟨jb, 1, none⟩ = some (.pointer (some ⟨db, 0, none⟩)) ∧ wx.cell? ⟨jb, 3, none⟩ = some (.int .i64 (t : Int)) ∧ wx.cell? ⟨jb, 6, none⟩ = some (.int .i64 (n : Int))) (by kernel_rfl) (⟨HJwl.out.drew.cell (i := 1) rfl, HJwl.out.drew.cell (i := 3) rfl, HJwl.out.drew.cell (i := 6) rfl⟩) (fun hHeld => ?_)
    obtain ⟨wn, hwn⟩ : ∃ wn, wn = wl.drew := ⟨_, rfl⟩
    have HJwn := Lib.hid (show Blk wn jb (jourCells sv db (⟨gen, (t : Int), (ep : Int), clock, ⟨(n : Int), lbas, first⟩⟩ : SupD)) 137 from by rw [hwn]; exact HJwl.out.drew)
    have HDwn := Lib.hid (show DiskAt wn db d from by rw [hwn]; exact HDwl.out.below (Below.refl _ _).drew)
    have HBEwn := Lib.hid (show Below w.heap.size w wn from by rw [hwn]; exact HBEwl.out.drew)
    have HB7wn := Lib.hid (show Blk wn b7 [.slice none 0 0] 58 from by rw [hwn]; exact HB7wl.out.drew)
    rw [← hwn]
    rw [← hwn] at hHeld
    clear hwn
    refine wpAnyH_take (i := 0) (v := ?_) rfl (by kernel_rfl) (by kernel_rfl) (by kernel_rfl) (fun _ _ _ h => h) (Or.inl ⟨by rfl, ?_⟩) (by assumption) ?_
    rotate_left
    · intro w hSw; (try dsimp only at hSw); go_simp; first | done | with_reducible rfl
    (try simp only [Act.put, Array.getInternal_eq_getElem, List.getElem_toArray, List.getElem_cons_succ, List.getElem_cons_zero, List.setIfInBounds_toArray, List.set_cons_zero, List.set_cons_succ])
    refine wpAnyH_take (i := 1) (v := ?_) rfl (by kernel_rfl) (by kernel_rfl) (by kernel_rfl) (fun _ _ _ h => h) (Or.inl ⟨by rfl, ?_⟩) (by assumption) ?_
    rotate_left
    · intro w hSw; (try dsimp only at hSw); go_simp; first | done | with_reducible rfl
    (try simp only [Act.put, Array.getInternal_eq_getElem, List.getElem_toArray, List.getElem_cons_succ, List.getElem_cons_zero, List.setIfInBounds_toArray, List.set_cons_zero, List.set_cons_succ])
    refine wpAnyH_take (i := 2) (v := ?_) rfl (by kernel_rfl) (by kernel_rfl) (by kernel_rfl) (fun _ _ _ h => h) (Or.inl ⟨by rfl, ?_⟩) (by assumption) ?_
    rotate_left
    · intro w hSw; (try dsimp only at hSw); go_simp; first | done | with_reducible rfl
    (try simp only [Act.put, Array.getInternal_eq_getElem, List.getElem_toArray, List.getElem_cons_succ, List.getElem_cons_zero, List.setIfInBounds_toArray, List.set_cons_zero, List.set_cons_succ])
    refine wpAnyH_take (i := 3) (v := ?_) rfl (by kernel_rfl) (by kernel_rfl) (by kernel_rfl) (fun _ _ _ h => h) (Or.inl ⟨by rfl, ?_⟩) (by assumption) ?_
    rotate_left
    · intro w hSw; (try dsimp only at hSw); go_simp; first | done | with_reducible rfl
    (try simp only [Act.put, Array.getInternal_eq_getElem, List.getElem_toArray, List.getElem_cons_succ, List.getElem_cons_zero, List.setIfInBounds_toArray, List.set_cons_zero, List.set_cons_succ])
    refine wpAnyH_take (i := 4) (v := ?_) rfl (by kernel_rfl) (by kernel_rfl) (by kernel_rfl) (fun _ _ _ h => h) (Or.inl ⟨by rfl, ?_⟩) (by assumption) ?_
    rotate_left
    · intro w hSw; (try dsimp only at hSw); go_simp; first | done | with_reducible rfl
    (try simp only [Act.put, Array.getInternal_eq_getElem, List.getElem_toArray, List.getElem_cons_succ, List.getElem_cons_zero, List.setIfInBounds_toArray, List.set_cons_zero, List.set_cons_succ])
    refine wpAnyH_take (i := 6) (v := ?_) rfl (by kernel_rfl) (by kernel_rfl) (by kernel_rfl) (fun _ _ _ h => h) (Or.inl ⟨by rfl, ?_⟩) (by assumption) ?_
    rotate_left
    · intro w hSw; (try dsimp only at hSw); go_simp; first | done | with_reducible rfl
    (try simp only [Act.put, Array.getInternal_eq_getElem, List.getElem_toArray, List.getElem_cons_succ, List.getElem_cons_zero, List.setIfInBounds_toArray, List.set_cons_zero, List.set_cons_succ])
    refine wpAnyH_take (i := 7) (v := ?_) rfl (by kernel_rfl) (by kernel_rfl) (by kernel_rfl) (fun _ _ _ h => h) (Or.inl ⟨by rfl, ?_⟩) (by assumption) ?_
    rotate_left
    · intro w hSw; (try dsimp only at hSw); go_simp; first | done | with_reducible rfl
    (try simp only [Act.put, Array.getInternal_eq_getElem, List.getElem_toArray, List.getElem_cons_succ, List.getElem_cons_zero, List.setIfInBounds_toArray, List.set_cons_zero, List.set_cons_succ])
    refine wpAnyH_take (i := 8) (v := ?_) rfl (by kernel_rfl) (by kernel_rfl) (by kernel_rfl) (fun _ _ _ h => h) (Or.inl ⟨by rfl, ?_⟩) (by assumption) ?_
    rotate_left
    · intro w hSw; (try dsimp only at hSw); go_simp; first | done | with_reducible rfl
    (try simp only [Act.put, Array.getInternal_eq_getElem, List.getElem_toArray, List.getElem_cons_succ, List.getElem_cons_zero, List.setIfInBounds_toArray, List.set_cons_zero, List.set_cons_succ])
    refine wpAnyH_take (i := 9) (v := ?_) rfl (by kernel_rfl) (by kernel_rfl) (by kernel_rfl) (fun _ _ _ h => h) (Or.inl ⟨by rfl, ?_⟩) (by assumption) ?_
    rotate_left
    · intro w hSw; (try dsimp only at hSw); go_simp; first | done | with_reducible rfl
    (try simp only [Act.put, Array.getInternal_eq_getElem, List.getElem_toArray, List.getElem_cons_succ, List.getElem_cons_zero, List.setIfInBounds_toArray, List.set_cons_zero, List.set_cons_succ])
    refine wpAnyH_take (i := 10) (v := ?_) rfl (by kernel_rfl) (by kernel_rfl) (by kernel_rfl) (fun _ _ _ h => h) (Or.inl ⟨by rfl, ?_⟩) (by assumption) ?_
    rotate_left
    · intro w hSw; (try dsimp only at hSw); go_simp; first | done | with_reducible rfl
    (try simp only [Act.put, Array.getInternal_eq_getElem, List.getElem_toArray, List.getElem_cons_succ, List.getElem_cons_zero, List.setIfInBounds_toArray, List.set_cons_zero, List.set_cons_succ])
    refine wpAnyH_take (i := 12) (v := ?_) rfl (by kernel_rfl) (by kernel_rfl) (by kernel_rfl) (fun _ _ _ h => h) (Or.inl ⟨by rfl, ?_⟩) (by assumption) ?_
    rotate_left
    · intro w hSw; (try dsimp only at hSw); go_simp; first | done | with_reducible rfl
    (try simp only [Act.put, Array.getInternal_eq_getElem, List.getElem_toArray, List.getElem_cons_succ, List.getElem_cons_zero, List.setIfInBounds_toArray, List.set_cons_zero, List.set_cons_succ])
    refine wpAnyH_take (i := 13) (v := ?_) rfl (by kernel_rfl) (by kernel_rfl) (by kernel_rfl) (fun _ _ _ h => h) (Or.inl ⟨by rfl, ?_⟩) (by assumption) ?_
    rotate_left
    · intro w hSw; (try dsimp only at hSw); go_simp; first | done | with_reducible rfl
    (try simp only [Act.put, Array.getInternal_eq_getElem, List.getElem_toArray, List.getElem_cons_succ, List.getElem_cons_zero, List.setIfInBounds_toArray, List.set_cons_zero, List.set_cons_succ])
    refine wpAnyH_take (i := 14) (v := ?_) rfl (by kernel_rfl) (by kernel_rfl) (by kernel_rfl) (fun _ _ _ h => h) (Or.inl ⟨by rfl, ?_⟩) (by assumption) ?_
    rotate_left
    · intro w hSw; (try dsimp only at hSw); go_simp; first | done | with_reducible rfl
    (try simp only [Act.put, Array.getInternal_eq_getElem, List.getElem_toArray, List.getElem_cons_succ, List.getElem_cons_zero, List.setIfInBounds_toArray, List.set_cons_zero, List.set_cons_succ])
    refine wpAnyH_take (i := 15) (v := ?_) rfl (by kernel_rfl) (by kernel_rfl) (by kernel_rfl) (fun _ _ _ h => h) (Or.inl ⟨by rfl, ?_⟩) (by assumption) ?_
    rotate_left
    · intro w hSw; (try dsimp only at hSw); go_simp; first | done | with_reducible rfl
    (try simp only [Act.put, Array.getInternal_eq_getElem, List.getElem_toArray, List.getElem_cons_succ, List.getElem_cons_zero, List.setIfInBounds_toArray, List.set_cons_zero, List.set_cons_succ])
    refine wpAnyH_take (i := 16) (v := ?_) rfl (by kernel_rfl) (by kernel_rfl) (by kernel_rfl) (fun _ _ _ h => h) (Or.inl ⟨by rfl, ?_⟩) (by assumption) ?_
    rotate_left
    · intro w hSw; (try dsimp only at hSw); go_simp; first | done | with_reducible rfl
    (try simp only [Act.put, Array.getInternal_eq_getElem, List.getElem_toArray, List.getElem_cons_succ, List.getElem_cons_zero, List.setIfInBounds_toArray, List.set_cons_zero, List.set_cons_succ])
    refine wpAnyH_take (i := 17) (v := ?_) rfl (by kernel_rfl) (by kernel_rfl) (by kernel_rfl) (fun _ _ _ h => h) (Or.inl ⟨by rfl, ?_⟩) (by assumption) ?_
    rotate_left
    · intro w hSw; (try dsimp only at hSw); go_simp; first | done | with_reducible rfl
    (try simp only [Act.put, Array.getInternal_eq_getElem, List.getElem_toArray, List.getElem_cons_succ, List.getElem_cons_zero, List.setIfInBounds_toArray, List.set_cons_zero, List.set_cons_succ])
    refine wpAnyH_ready (rs := [5]) (by kernel_rfl) (by simp) ?_
    refine AllReadyH.cons rfl (fun K hK => ?_) AllReadyH.nil
    go_simp
    refine (place_walk jb db sv (⟨gen, (t : Int), (ep : Int), clock, ⟨(n : Int), lbas, first⟩⟩ : SupD) 0 _ HJwn.out HG.out (by decide) (by show (0 : Int) < (n : Int) - 4; have := HN.out; omega)).mono ?_
    rintro e wo ⟨rfl, hbo⟩
    have HJwo := Lib.hid (HJwn.out.below hbo HJwn.out.lt)
    have HB7wo := Lib.hid (HB7wn.out.below hbo HB7wn.out.lt)
    have HDwo := Lib.hid (HDwn.out.below hbo)
    have HBEwo := Lib.hid (HBEwn.out.trans (hbo.mono HBEwn.out.size))
    clear hbo
    (try go_wp2_with fail)
    refine hK.out _ _ (⟨HJwo.out.cell (i := 1) rfl, HJwo.out.cell (i := 3) rfl, HJwo.out.cell (i := 6) rfl⟩) (fun hHeld2 => ?_)
    clear hK K hHeld
    have hHeld := hHeld2
    clear hHeld2
    (try simp only [Act.put, Array.getInternal_eq_getElem, List.getElem_toArray, List.getElem_cons_succ, List.getElem_cons_zero, List.setIfInBounds_toArray, List.set_cons_zero, List.set_cons_succ])
    refine wpAnyH_take (i := 11) (v := ?_) rfl (by kernel_rfl) (by kernel_rfl) (by kernel_rfl) (fun _ _ _ h => h) (Or.inl ⟨by rfl, ?_⟩) (by assumption) ?_
    rotate_left
    · intro w hSw; (try dsimp only at hSw); go_simp; first | done | with_reducible rfl
    (try simp only [Act.put, Array.getInternal_eq_getElem, List.getElem_toArray, List.getElem_cons_succ, List.getElem_cons_zero, List.setIfInBounds_toArray, List.set_cons_zero, List.set_cons_succ])
    refine wpAnyH_ready (rs := [18]) (by kernel_rfl) (by simp) ?_
    refine AllReadyH.cons rfl (fun K hK => ?_) AllReadyH.nil
    go_simp
    refine (unlike_walk db _ _ _).mono ?_
    rintro e wp ⟨⟨pf, pt, pd, rfl, hu⟩, hbp⟩
    have HJwp := Lib.hid (HJwo.out.below hbp HJwo.out.lt)
    have HB7wp := Lib.hid (HB7wo.out.below hbp HB7wo.out.lt)
    have HDwp := Lib.hid (HDwo.out.below hbp)
    have HBEwp := Lib.hid (HBEwo.out.trans (hbp.mono HBEwo.out.size))
    have HU := Lib.hid hu
    clear hu hbp
    (try go_wp2_with fail)
    refine hK.out _ _ (⟨HJwp.out.cell (i := 1) rfl, HJwp.out.cell (i := 3) rfl, HJwp.out.cell (i := 6) rfl⟩) (fun hHeld2 => ?_)
    clear hK K hHeld
    have hHeld := hHeld2
    clear hHeld2
    (try simp only [Act.put, Array.getInternal_eq_getElem, List.getElem_toArray, List.getElem_cons_succ, List.getElem_cons_zero, List.setIfInBounds_toArray, List.set_cons_zero, List.set_cons_succ])
    refine wpAnyH_done (by kernel_rfl) ?_ _
    clear hHeld

    go_wp2_with fail
    refine wp_rangeFunc_none rfl (enters_of Tryz.func261 (by kernel_rfl) rfl) ?_ ?_
    · intro l W hW
      have hu0 := HU.out.below hW
      have e4 : IntKind.i64.wrap (4 + (t : Int)) = (((4 + t : Nat)) : Int) := by rw [IntWalk.i64_in _ (by have := HT.out; have := HN.out; have := HB.out; omega)]; omega
      rw [e4] at hu0
      exact (unlike1_walk _ db pf pt pd d (4 + t) n W (HDwp.out.below hW) hu0 HT.out (by rw [HN.out.2]; exact Nat.le_refl _) HDN.out HC.out HB.out HSH.out).mono (fun e W' h => ⟨⟨_, h.1⟩, h.2⟩)
    intro D wq hD hbq hkq
    have HB7wq := Lib.hid (HB7wp.out.below hbq HB7wp.out.lt)
    have HBEwq := Lib.hid (HBEwp.out.trans (hbq.mono HBEwp.out.size))
    have HLD := Lib.hid (Nat.le_trans HBEwp.out.size hD)
    have HKQ := Lib.hid hkq
    have c7 := HB7wq.out.cell (i := 0) rfl
    clear hD hbq hkq
    go_wp2_with fail
    go_loopw [77] (fun v wr => v = .int .i64 0 ∧ wq = wr) (fun _ _ => 0)
    case atStart => exact ⟨rfl, rfl⟩
    case round =>
      obtain ⟨rfl, rfl⟩ := hrel
      go_wp2_with fail
      refine ⟨by simp, .inl ⟨_, _, rfl, run_takeDeferred HKQ.out, ?_⟩⟩
      refine ⟨.int .i64 0, ?_, rfl, HBEwq.out.grown (grownBy_putObj' wq D (.deferred none)) HBEwq.out.size (fun k e => by cases e; exact HLD.out)⟩
      simp [results, Tryz.f264, go_sem]
end Go.Proofs.YtppdboadjefieaaGreat

namespace Go.Proofs.YtppdboadjefieaaGreat
open Go Go.RowKit

def CutEnd (l : List UInt8) (e : Ending) : Prop :=
  (∃ a b x y, cutS l = some (a, b) ∧ e = .returned (.tuple #[.string x, .string y, .int .i64 0]) ∧ Txt x a ∧ Txt y b) ∨
  (cutS l = none ∧ e = .returned (.tuple #[.string ⟨#[]⟩, .string ⟨#[]⟩, .int .i64 3]))

set_option maxHeartbeats 1000000 in
theorem ocut_walk (s : ByteArray) (w : World) :
    Calls Tryz.prog 254 #[.string s] w fun e w' => CutEnd s.data.toList e ∧ Below w.heap.size w w' := by
  have hl : s.data.toList.length = s.size := rfl
  by_cases c1 : s.size < 4
  · have d1 : (s.size : Int) < 4 := by omega
    have e1 : cutS s.data.toList = none := by unfold cutS; rw [if_pos (by rw [hl]; omega)]
    have E1 := Lib.hid e1
    clear e1 hl c1
    go_enter Tryz.func254, Tryz.ntmps254
    go_wp2_with fail
    go_ret3
    exact ⟨.inr ⟨E1.out, rfl⟩, Below.refl _ _⟩
  obtain ⟨n, hn⟩ : ∃ n, n = beNum (s.data.toList.take 4) := ⟨_, rfl⟩
  have hlt := beNum_lt (s.data.toList.take 4)
  have hl4 : (s.data.toList.take 4).length = 4 := by rw [List.length_take, hl]; omega
  rw [hl4, ← hn] at hlt
  have hn4 : n < 4294967296 := by simpa using hlt
  have tg : Txt (s.extract 0 4) (s.data.toList.take 4) := ((Txt.self s).extract 0 4).cast (by simp)
  obtain ⟨t, ht⟩ : ∃ t, s.extract 4 s.size = t := ⟨_, rfl⟩
  have tt : Txt t (s.data.toList.drop 4) := by rw [← ht]; exact ((Txt.self s).extract 4 s.size).cast (by rw [List.take_of_length_le (by rw [hl]; omega)])
  have tz : t.size = s.size - 4 := by rw [tt.size, List.length_drop, hl]
  have TG := Lib.hid tg
  have TT := Lib.hid tt
  have HN := Lib.hid hn
  have HL := Lib.hid hl
  have TZ := Lib.hid tz
  have HT := Lib.hid ht
  have d1 : (4 : Int) ≤ s.size := by omega
  clear tg tt hl hlt hl4
  by_cases c2 : t.size < n
  · have e1 : cutS s.data.toList = none := by unfold cutS; rw [if_pos (by rw [HL.out, ← HN.out]; omega)]
    have E1 := Lib.hid e1
    have d2 : (t.size : Int) < n := by omega
    clear e1 hn tz c2 c1
    go_enter Tryz.func254, Tryz.ntmps254
    go_wp2_with fail
    refine (oget_walk (s.extract 0 4) _).mono ?_
    rintro e w1 ⟨he, rfl⟩
    rcases he with ⟨hok, rfl⟩ | ⟨hno, rfl⟩
    rotate_left
    · exfalso
      rw [TG.out, List.length_take, HL.out, ← HN.out] at hno
      omega
    rw [TG.out, ← HN.out]
    clear hok
    go_wp2_with fail
    go_ret3
    exact ⟨.inr ⟨E1.out, rfl⟩, Below.refl _ _⟩
  · have e1 : cutS s.data.toList = some ((s.data.toList.drop 4).take n, (s.data.toList.drop 4).drop n) := by unfold cutS; rw [if_neg (by rw [HL.out, ← HN.out]; omega), ← HN.out]
    have E1 := Lib.hid e1
    have d2 : (n : Int) ≤ (t.size : Int) := by omega
    have d3 : (0 : Int) ≤ (n : Int) := by omega
    clear e1 hn tz c2 c1
    go_enter Tryz.func254, Tryz.ntmps254
    go_wp2_with fail
    refine (oget_walk (s.extract 0 4) _).mono ?_
    rintro e w1 ⟨he, rfl⟩
    rcases he with ⟨hok, rfl⟩ | ⟨hno, rfl⟩
    rotate_left
    · exfalso
      rw [TG.out, List.length_take, HL.out, ← HN.out] at hno
      omega
    rw [TG.out, ← HN.out]
    clear hok
    go_wp2_with fail
    go_quiet (fail)
    go_wp2_with fail
    go_ret3
    refine ⟨.inl ⟨_, _, _, _, E1.out, rfl, ?_, ?_⟩, ⟨rfl, rfl, rfl, Nat.le_refl _, fun _ _ => rfl⟩⟩
    · exact (TT.out.extract 0 n).cast (by simp)
    · exact (TT.out.extract n t.size).cast (by rw [List.take_of_length_le (by rw [← TT.out.size]; omega)])

theorem infoI : (Tryz.prog.info? 3).map (fun i => (i.zero, i.size, i.bytes)) = some (some (.int .i64 0), 1, 8) := by kernel_rfl

theorem cut1_walk (b k : Nat) (s : ByteArray) (w : World) (hb : Blk w b [.string s] 9) (hk : k ≤ s.size) :
    Calls Tryz.prog 329 #[.int .i64 (k : Int), .pointer (some ⟨b, 0, none⟩)] w fun e w' => ∃ x y, e = .returned (.string x) ∧ Txt x (s.data.toList.take k) ∧ Txt y (s.data.toList.drop k) ∧ w' = w.setCell ⟨b, 0, none⟩ (.string y) := by
  have hl : s.data.toList.length = s.size := rfl
  have HL := Lib.hid hl; clear hl
  have h0 := hb.cell (i := 0) rfl
  have h1 := hb.free 0
  have d0 : (0 : Int) ≤ (k : Int) := by omega
  have d1 : (k : Int) ≤ s.size := by omega
  go_enter Tryz.func329, Tryz.ntmps329
  go_wp2_with fail
  go_ret
  refine ⟨_, _, rfl, ?_, ?_, rfl⟩
  · exact ((Txt.self s).extract 0 k).cast (by simp)
  · exact ((Txt.self s).extract k s.size).cast (by rw [List.take_of_length_le (by rw [HL.out]; omega)])

def sumTo (ws : List Nat) (k : Nat) : Nat := (ws.take k).sum
theorem sumTo_succ {ws : List Nat} {k a : Nat} (h : ws[k]? = some a) : sumTo ws (k + 1) = sumTo ws k + a := by
  obtain ⟨h1, rfl⟩ := List.getElem?_eq_some_iff.1 h
  unfold sumTo
  rw [List.take_succ_eq_append_getElem h1, List.sum_append]
  simp
theorem sumTo_all (ws : List Nat) : sumTo ws ws.length = ws.sum := by unfold sumTo; rw [List.take_length]
theorem sumTo_le (ws : List Nat) (k : Nat) : sumTo ws k ≤ ws.sum := by
  have h := List.take_append_drop k ws
  unfold sumTo
  conv => rhs; rw [← h]
  rw [List.sum_append]
  omega
def UnpackEnd (ws : List Nat) (l : List UInt8) (w w' : World) (e : Ending) : Prop :=
  (∃ ns vo, unpackS ws l = some ns ∧ e = .returned (.tuple #[vo, .int .i64 0]) ∧ w'.ownsRow w.heap.size 3 1 vo ns.length (ns.map (Value.int .i64)) ∧ ns.length = ws.length) ∨
  (unpackS ws l = none ∧ e = .returned (.tuple #[.slice none 0 0, .int .i64 3]))
structure UnpackAt (ws : List Nat) (l : List UInt8) (k : Nat) (ns : List Int) : Prop where
  len : ns.length = k
  all : unpackS ws l = (unpackS (ws.drop k) (l.drop (sumTo ws k))).map (ns ++ ·)
theorem UnpackAt.start (ws : List Nat) (l : List UInt8) : UnpackAt ws l 0 [] := ⟨rfl, by simp [sumTo]⟩
theorem UnpackAt.no {ws : List Nat} {l : List UInt8} {k a : Nat} {ns : List Int} (h : UnpackAt ws l k ns) (ha : ws[k]? = some a) (hg : getOk ((l.drop (sumTo ws k)).take a) = false) : unpackS ws l = none := by
  rw [h.all]
  obtain ⟨h1, rfl⟩ := List.getElem?_eq_some_iff.1 ha
  rw [List.drop_eq_getElem_cons h1]
  simp only [unpackS]
  rw [hg]
  rfl
theorem UnpackAt.next {ws : List Nat} {l : List UInt8} {k a : Nat} {ns : List Int} (h : UnpackAt ws l k ns) (ha : ws[k]? = some a) (hg : getOk ((l.drop (sumTo ws k)).take a) = true) :
    UnpackAt ws l (k + 1) (ns ++ [((beNum ((l.drop (sumTo ws k)).take a) : Nat) : Int)]) := by
  refine ⟨by rw [List.length_append, h.len]; rfl, ?_⟩
  have e : l.drop (sumTo ws k + a) = (l.drop (sumTo ws k)).drop a := by rw [List.drop_drop]
  rw [h.all, sumTo_succ ha, e]
  obtain ⟨h1, rfl⟩ := List.getElem?_eq_some_iff.1 ha
  rw [List.drop_eq_getElem_cons h1]
  simp only [unpackS]
  rw [hg, if_pos rfl, Option.map_map]
  congr 1
  funext x
  simp
theorem UnpackAt.done {ws : List Nat} {l : List UInt8} {k : Nat} {ns : List Int} (h : UnpackAt ws l k ns) (hk : ws.length ≤ k) : unpackS ws l = some ns := by
  rw [h.all, List.drop_of_length_le hk]
  simp [unpackS]

set_option maxRecDepth 100000 in
set_option maxHeartbeats 4000000 in
theorem unpack_walk (v : Value) (ws : List Nat) (s : ByteArray) (w : World) (hv : IntRow w v (ws.map (fun (a : Nat) => (a : Int)))) (hw : ∀ (k a : Nat), ws[k]? = some a → 1 ≤ a ∧ a ≤ 8) (hsum : ws.sum = s.size) (hne : 0 < ws.length) (hlen : ws.length ≤ 16) :
    Calls Tryz.prog 253 #[v, .string s] w fun e w' => UnpackEnd ws s.data.toList w w' e ∧ Below w.heap.size w w' := by
  obtain ⟨g, o, c, rfl, hg, hc⟩ := hv.at (by rw [List.length_map]; exact hne)
  have hl : s.data.toList.length = s.size := rfl
  obtain ⟨n, hn⟩ : ∃ n, n = ws.length := ⟨_, rfl⟩
  rw [List.length_map, ← hn]
  have hcell : ∀ (k a : Nat), ws[k]? = some a → w.cell? ⟨g, o + k, none⟩ = some (.int .i64 (a : Int)) := fun k a ha => hc k a (by rw [List.getElem?_map, ha]; rfl)
  have hszb : s.size ≤ 128 := by
    have : ∀ k, k ≤ ws.length → sumTo ws k ≤ 8 * k := by
      intro k
      induction k with
      | zero => intro _; simp [sumTo]
      | succ k ih =>
        intro hk
        obtain ⟨a, ha⟩ : ∃ a, ws[k]? = some a := ⟨_, List.getElem?_eq_getElem (by omega)⟩
        have := hw k a ha
        rw [sumTo_succ ha]
        have := ih (by omega)
        omega
    have h := this ws.length (Nat.le_refl _)
    rw [sumTo_all] at h
    omega
  have hn16 : n ≤ 16 := by omega
  have hn0 : 0 < n := by omega
  have HN := Lib.hid hn; clear hn
  have HC := Lib.hid hcell; clear hcell
  have HW := Lib.hid hw; clear hw
  have HS := Lib.hid hsum; clear hsum
  have HL := Lib.hid hl; clear hl
  clear hv hc hne hlen
  have hmf : ∀ (fn : Fn) (first cap : Array Value) (w : World), (Instr.makeFunc fn first cap).run Tryz.prog w = .ok (.func fn first cap) w := fun _ _ _ _ => rfl
  obtain ⟨j0, ji, jz0, jz1, jz2⟩ := info_parts infoI
  go_enter Tryz.func253, Tryz.ntmps253
  go_wp2_with ((with_reducible refine wpList_box_one 9 (.tmp 1) (.string s) rfl (some 3) ?hgd ?ho ?hd ?hx ?_); (case hgd | ho | hd | hx => rfl); (intro b w1 l1 B1 e1 z1))
  have hbel1 := e1.mono l1
  have HB1 := Lib.hid B1
  clear B1
  go_loop [6, 17] (fun x i => ∃ k : Nat, k ≤ n ∧ i = .int .i64 k ∧ x = .int .i64 ((sumTo ws k : Nat) : Int)) (fun _ i => n - (intOf i).toNat)
  case atStart => exact ⟨0, by omega, rfl, rfl⟩
  case round =>
    obtain ⟨k, hk, rfl, rfl⟩ := hrel
    obtain ⟨x, hx⟩ : ∃ x, x = sumTo ws k := ⟨_, rfl⟩
    rw [← hx]
    have hx8 : x ≤ 128 := by have := sumTo_le ws k; have := HS.out; omega
    have HX := Lib.hid hx; clear hx
    by_cases hlt : k < n
    · have hlt' : (k : Int) < n := by omega
      have h00 : (0 : Int) ≤ (k : Int) := by omega
      obtain ⟨a, ha⟩ : ∃ a, ws[k]? = some a := ⟨_, List.getElem?_eq_getElem (by rw [← HN.out]; exact hlt)⟩
      have hca : w1.cell? ⟨g, o + k, none⟩ = some (.int .i64 (a : Int)) := by rw [hbel1.cell (by show g < w.heap.size; exact hg)]; exact HC.out k a ha
      obtain ⟨a1, a2⟩ := HW.out k a ha
      have hsu := sumTo_succ ha
      rw [← HX.out] at hsu
      have HSU := Lib.hid hsu; clear hsu ha
      have q1 : ¬ (a : Int) < 1 := by omega
      have q2 : ¬ (8 : Int) < a := by omega
      go_wp2_with fail
      go_round
      case rel => exact ⟨k + 1, by omega, by go_num, by rw [HSU.out]; go_num⟩
      case measure => simp [intOf]; omega
    · obtain rfl : k = n := by omega
      have hxs : (x : Int) = s.size := by rw [HX.out, HN.out, sumTo_all, HS.out]
      have hbc := HB1.out.cell (i := 0) rfl
      go_wp2_with fail
      clear hbc
      go_loopw [10, 38] (fun vo i wr => ∃ (j : Nat) (t : ByteArray) (ns : List Int), j ≤ k ∧ i = .int .i64 j ∧ UnpackAt ws s.data.toList j ns ∧ Txt t (s.data.toList.drop (sumTo ws j)) ∧ Blk wr b [.string t] 9 ∧ wr.ownsRow (b + 1) 3 1 vo j (ns.map (Value.int .i64)) ∧ Below w.heap.size w wr) (fun _ i _ => k - (intOf i).toNat)
      case atStart => exact ⟨0, s, [], by omega, rfl, UnpackAt.start _ _, Txt.self s, HB1.out, World.ownsRow_nil _ _ _ _, hbel1⟩
      case round =>
        obtain ⟨j, t, ns, hj, rfl, hat, tt, hblk, hown, hbel⟩ := hrel
        obtain ⟨q, d, rfl⟩ := own_shape hown
        have HO := Lib.hid hown; clear hown
        have HB := Lib.hid hblk; clear hblk
        have HAT := Lib.hid hat; clear hat
        have TT := Lib.hid tt; clear tt
        by_cases hlt : j < k
        · have hlt' : (j : Int) < k := by omega
          have h00 : (0 : Int) ≤ (j : Int) := by omega
          obtain ⟨a, ha⟩ : ∃ a, ws[j]? = some a := ⟨_, List.getElem?_eq_getElem (by rw [← HN.out]; exact hlt)⟩
          have hca : wr.cell? ⟨g, o + j, none⟩ = some (.int .i64 (a : Int)) := by rw [hbel.cell (by show g < w.heap.size; exact hg)]; exact HC.out j a ha
          obtain ⟨a1, a2⟩ := HW.out j a ha
          have hts : a ≤ t.size := by
            have e1 := TT.out.size
            rw [List.length_drop, HL.out] at e1
            have e2 := sumTo_succ ha
            have e3 := sumTo_le ws (j + 1)
            have e4 := HS.out
            omega
          have HA := Lib.hid ha; clear ha
          go_wp2_with fail
          refine (cut1_walk b a t _ HB.out hts).mono ?_
          rintro e w2 ⟨x1, y1, rfl, tx, ty, rfl⟩
          have TX := Lib.hid (tx.cast (by rw [show t.data.toList = _ from TT.out])); clear tx
          have TY : Hid (Txt y1 (s.data.toList.drop (sumTo ws (j + 1)))) := Lib.hid (ty.cast (by rw [show t.data.toList = _ from TT.out, sumTo_succ HA.out, List.drop_drop]))
          clear ty
          go_wp2_with fail
          refine (oget_walk x1 _).mono ?_
          rintro e w2 ⟨he, rfl⟩
          have HB2 := Lib.hid (HB.out.set 0 (.string y1))
          have HO2 := Lib.hid (own_set (u := .string y1) (i := 0) HO.out (Nat.lt_succ_self b))
          have hbel2 : Below w.heap.size w (wr.setCell ⟨b, 0, none⟩ (.string y1)) := hbel.setCell (by show w.heap.size ≤ b; exact l1) _
          have HBE := Lib.hid hbel2
          obtain ⟨w4, hw4⟩ : ∃ w4, wr.setCell ⟨b, 0, none⟩ (.string y1) = w4 := ⟨_, rfl⟩
          rw [hw4] at HB2 HO2 HBE ⊢
          clear hbel2 hw4 hbel HB HO hca
          rcases he with ⟨hok, rfl⟩ | ⟨hno, rfl⟩
          · have hgo : getOk ((s.data.toList.drop (sumTo ws j)).take a) = true := by rw [getOk_iff, ← show x1.data.toList = _ from TX.out]; exact hok
            have hnx := HAT.out.next HA.out hgo
            rw [← show x1.data.toList = _ from TX.out] at hnx
            have HNX := Lib.hid hnx
            obtain ⟨z, hz⟩ : ∃ z, ((beNum x1.data.toList : Nat) : Int) = z := ⟨_, rfl⟩
            rw [hz] at HNX ⊢
            clear hz hok hgo hnx
            go_wp2_with (first
              | ((with_reducible refine wpList_slice_new 58 3 1 ?parts [.int .i64 z] (.int .i64 0) 1 8 (some 54) Tryz.underlying58 infoI (by omega) (by omega) ?hgd ?ho ?hd ?hf ?_); (case hgd | ho | hd => rfl); (case hf => kernel_rfl); (intro g3 w3 l3 B3 e3 z3); (have own3 := own_below (e3.mono l3) HO2.out))
              | (at_builtin; refine wpList_append_own_wide _ rfl _ _ 58 rfl (b + 1) 3 j0 (.int .i64 0) 1 8 Tryz.underlying58 ji jz0 jz1 jz2 rfl (by decide) _ _ _ rfl own3 ⟨g3, 0, none⟩ 1 1 [.int .i64 z] rfl rfl (cells_add B3) (by intro v hv; simp at hv; subst hv; rfl) (by unfold maxLen; omega) (by omega) (by have := HB2.out.lt; have := e3.size; omega) ?_; intro v' w5 own5 grow5 nil5)
              | fail)
            have b3 := HBE.out.trans (e3.mono (Nat.le_trans HBE.out.size l3))
            have B5 := (HB2.out.below e3 (by have := HB2.out.lt; omega)).grown grow5 (own_ne own3 (by omega))
            go_wp2_with fail
            go_roundw
            case rel => exact ⟨j + 1, y1, ns ++ [z], by omega, by go_num, HNX.out, TY.out, B5, by rw [List.map_append]; exact own5, below_own b3 own3 grow5 (by omega) b3.size⟩
            case measure => simp [intOf]; omega
          · have hgo : getOk ((s.data.toList.drop (sumTo ws j)).take a) = false := by
              rw [← show x1.data.toList = _ from TX.out]
              cases hh : getOk x1.data.toList with
              | false => rfl
              | true => exact absurd (getOk_iff.1 hh) hno
            have hnx := HAT.out.no HA.out hgo
            have HNX := Lib.hid hnx
            clear hgo hnx hno
            go_wp2_with fail
            go_ret2
            exact ⟨.inr ⟨HNX.out, rfl⟩, HBE.out⟩
        · obtain rfl : j = k := by omega
          go_wp2_with fail
          go_ret2
          refine ⟨.inl ⟨ns, _, HAT.out.done (by rw [← HN.out]; omega), rfl, ?_, by rw [HAT.out.len, HN.out]⟩, hbel⟩
          rw [HAT.out.len]
          exact own_base HO.out (by omega)
end Go.Proofs.YtppdboadjefieaaGreat

namespace Go.Proofs.YtppdboadjefieaaGreat
open Go Go.RowKit
set_option maxRecDepth 100000

theorem unpackS_cons {w n : Nat} {ws : List Nat} {l : List UInt8} (h1 : 1 ≤ w) (h8 : w ≤ 8) (hn : n < 256 ^ w) (h63 : n < 9223372036854775808) : unpackS (w :: ws) (beBytes w n ++ l) = (unpackS ws l).map ((n : Int) :: ·) := by
  have e1 : (beBytes w n ++ l).take w = beBytes w n := take_app (beBytes_length w n)
  have e2 : (beBytes w n ++ l).drop w = l := drop_app (beBytes_length w n)
  have hb := beNum_beBytes w n hn
  conv => lhs; unfold unpackS
  rw [e1, e2, if_pos (getOk_iff.2 ⟨by rw [beBytes_length]; exact h1, by rw [beBytes_length]; exact h8, by rw [hb]; exact h63⟩), hb]
theorem unpackS_nil (l : List UInt8) : unpackS [] l = some [] := by unfold unpackS; rfl
theorem geoL_unpack {g : GeoD} (h : GeoOk g) : unpackS [4, 4, 4] (geoL g) = some [g.blocks, g.lbas, g.first] := by
  obtain ⟨h1, h2, h3, h4, h5, h6⟩ := h
  have p4 : (256 : Nat) ^ 4 = 4294967296 := rfl
  have e : geoL g = beBytes 4 g.blocks.toNat ++ (beBytes 4 g.lbas.toNat ++ (beBytes 4 g.first.toNat ++ [])) := by unfold geoL; simp
  rw [e, unpackS_cons (by decide) (by decide) (by omega) (by omega), unpackS_cons (by decide) (by decide) (by omega) (by omega), unpackS_cons (by decide) (by decide) (by omega) (by omega), unpackS_nil]
  simp only [Option.map_some]
  rw [show ((g.blocks.toNat : Nat) : Int) = g.blocks by omega, show ((g.lbas.toNat : Nat) : Int) = g.lbas by omega, show ((g.first.toNat : Nat) : Int) = g.first by omega]
theorem zeroGeo (w : World) : Sem.run Tryz.prog (zeroValue 23) w = .ok (.agg (GeoD.zero.cells).toArray) w := by kernel_rfl
theorem eqGeo0 (blocks lbas first : Int) (hb : blocks ≠ 0) (w : World) : (Op.equalIn 10000 23 (.agg #[.int .i64 blocks, .int .i64 lbas, .int .i64 first]) (.agg #[.int .i64 0, .int .i64 0, .int .i64 0])).run Tryz.prog w = .ok false w := by
  have e : false = ((blocks == 0) && ((lbas == 0) && ((first == 0) && true))) := by simp [hb]
  rw [e]
  refine eq_struct (d := 9999) Tryz.underlying23 (by kernel_rfl) ?_
  refine eqf_int (k := .i64) (d := 9998) (by decide) (by kernel_rfl) (by kernel_rfl) Tryz.underlying3 ?_
  refine eqf_int (k := .i64) (d := 9998) (by decide) (by kernel_rfl) (by kernel_rfl) Tryz.underlying3 ?_
  refine eqf_int (k := .i64) (d := 9998) (by decide) (by kernel_rfl) (by kernel_rfl) Tryz.underlying3 ?_
  exact eqf_nil
theorem results_cell1t {fn : Func} {p u : Tmp} {ty : TypeId} {cs : List Value} {d : TypeDesc} (h : fn.results = #[.cell p ty, .tmp u]) (tmps : Array Value) (w : World) {b : Nat} (hb : w.rangeAt b 0 cs) (hp : tmps.getD p undef = .pointer (some ⟨b, 0, none⟩))
    (hu : Tryz.prog.underlying ty = some d) (hd : d.isRow = true) (hi : (Tryz.prog.info? ty).map (·.size) = some cs.length) :
    (results fn tmps).run Tryz.prog w = .ok (.tuple #[.agg cs.toArray, tmps.getD u undef]) w := by
  have e := run_loadVar_mid (P := Tryz.prog) w b 0 ty cs _ hb hu hd hi
  rw [results_cell_tmp h, hp]
  simp only [asAddr, Sem.run_pure, Result.andThen_ok, e]
set_option maxHeartbeats 4000000 in
theorem geomTake_walk (g : GeoD) (s : ByteArray) (w : World) (ht : Txt s (geoL g)) (hg : GeoOk g) :
    Calls Tryz.prog 423 #[.string s] w fun e w' => e = .returned (.tuple #[g.v, .int .i64 0]) ∧ Below w.heap.size w w' := by
  have hu0 := geoL_unpack hg
  rw [← show s.data.toList = _ from ht] at hu0
  have hs : s.size = 12 := by rw [ht.size, geoL_length]
  obtain ⟨blocks, lbas, first⟩ := g
  have HU0 := Lib.hid hu0
  have HT := Lib.hid ht
  have HG := Lib.hid hg
  have hb0 : blocks ≠ 0 := by have := hg.b0; simp only at this; omega
  have HQ := Lib.hid (eqGeo0 blocks lbas first hb0)
  clear hu0 ht hg hb0
  go_enter Tryz.func423, Tryz.ntmps423
  go_wp2_with (first
    | ((with_reducible refine wpList_alloc_new 23 _ zeroGeo (some 2) ?hgd ?ho ?hd ?_); (case hgd | ho | hd => rfl); (intro b2 w1 l1 B1 e1 z1))
    | fail)
  refine (geomWidths_walk _).mono ?_
  rintro e w2 ⟨⟨vw, rfl, hvw⟩, hb2⟩
  have HB2 := Lib.hid (B1.below hb2 z1)
  have HW2 := Lib.hid ((e1.mono l1).trans (hb2.mono (Nat.le_trans l1 (Nat.le_of_lt z1))))
  have HL := Lib.hid l1
  have HVW := Lib.hid hvw
  clear B1 e1 z1 hb2 hvw l1
  go_wp2_with fail
  refine (unpack_walk vw [4, 4, 4] s _ HVW.out (by intro k a h; match k, h with | 0, h => simp at h; omega | 1, h => simp at h; omega | 2, h => simp at h; omega | k + 3, h => simp at h) (by rw [hs]; rfl) (by decide) (by decide)).mono ?_
  rintro e w3 ⟨he, hb3⟩
  rcases he with ⟨ns, vo, hu, rfl, hown, _⟩ | ⟨hu, _⟩
  rotate_left
  · exact absurd (HU0.out.symm.trans hu) (by simp)
  obtain rfl : [blocks, lbas, first] = ns := Option.some.inj (HU0.out.symm.trans hu)
  obtain ⟨gr, cap, z, rfl, hcap, hgg, hblk⟩ := own_split hown (by simp)
  have HB3 := Lib.hid (HB2.out.below hb3 HB2.out.lt)
  have HW3 := Lib.hid (HW2.out.trans (hb3.mono HW2.out.size))
  have i0 : w3.cell? ⟨gr, 0, none⟩ = some (.int .i64 blocks) := hblk.cell (i := 0) rfl
  have i1 : w3.cell? ⟨gr, 1, none⟩ = some (.int .i64 lbas) := hblk.cell (i := 1) rfl
  have i2 : w3.cell? ⟨gr, 2, none⟩ = some (.int .i64 first) := hblk.cell (i := 2) rfl
  have hgD : gr < w3.heap.size := hblk.lt
  clear hb3 hu hown hcap hgg hblk
  go_wp2_with fail
  go_region_held3 (fun w' => w'.cell? ⟨gr, 0, none⟩ = some (.int .i64 blocks) ∧ w'.cell? ⟨gr, 1, none⟩ = some (.int .i64 lbas) ∧ w'.cell? ⟨gr, 2, none⟩ = some (.int .i64 first)) (go_keep) (fail)
  all_goals
    have B6 : Blk (w3.alloc (Obj.cells #[.int .i64 blocks, .int .i64 lbas, .int .i64 first] 23)).drew w3.heap.size (GeoD.cells ⟨blocks, lbas, first⟩) 23 := Blk.new w3 (GeoD.cells ⟨blocks, lbas, first⟩) 23
    have hb6 : Below w3.heap.size w3 (w3.alloc (Obj.cells #[.int .i64 blocks, .int .i64 lbas, .int .i64 first] 23)).drew := ((Below.refl _ _).alloc (Nat.le_refl _) _).drew
    obtain ⟨w6, hw6⟩ : ∃ W, (w3.alloc (Obj.cells #[.int .i64 blocks, .int .i64 lbas, .int .i64 first] 23)).drew = W := ⟨_, rfl⟩
    rw [hw6] at B6 hb6 ⊢
    have HB6 := Lib.hid (HB3.out.below hb6 HB3.out.lt)
    have HW6 := Lib.hid (HW3.out.trans (hb6.mono HW3.out.size))
    have H6 := Lib.hid B6
    clear hw6 B6 hb6 i0 i1 i2 hgD
    go_wp2_with ((with_reducible refine wpList_load_blk 23 (.tmp 6) w3.heap.size (GeoD.cells ⟨blocks, lbas, first⟩) 23 _ H6.out Tryz.underlying23 rfl sizeGeo ?hgd ?ho ?hx ?_); (case hgd | ho | hx => rfl))
    refine (geomPut_walk ⟨blocks, lbas, first⟩ _ HG.out).mono ?_
    rintro e w7 ⟨r, rfl, tr, hb7⟩
    obtain rfl : r = s := tr.eq HT.out
    have HB7 := Lib.hid (HB6.out.below hb7 HB6.out.lt)
    have HW7 := Lib.hid (HW6.out.trans (hb7.mono HW6.out.size))
    have H7 := Lib.hid (H6.out.below hb7 H6.out.lt)
    clear hb7 tr
    go_wp2_with (first
      | ((with_reducible refine wpList_load_met 23 (.tmp 6) w3.heap.size 0 (GeoD.cells ⟨blocks, lbas, first⟩) _ (some 41) H7.out.range Tryz.underlying23 rfl sizeGeo ?hg ?ho ?hds ?hx ?_); (case ho | hg | hds | hx => rfl))
      | ((with_reducible refine wpList_eq_agg 23 23 (.tmp 41) (.tmp 42) #[.int .i64 blocks, .int .i64 lbas, .int .i64 first] #[.int .i64 0, .int .i64 0, .int .i64 0] false (some 43) (by kernel_rfl) (HQ.out _) ?hg ?ho ?hd ?hx ?hy ?_); (case hg | ho | hd | hx | hy => rfl))
      | ((with_reducible refine wpList_load_blk 23 (.tmp 6) w3.heap.size (GeoD.cells ⟨blocks, lbas, first⟩) 23 _ H7.out Tryz.underlying23 rfl sizeGeo ?hgd ?ho ?hx ?_); (case hgd | ho | hx => rfl))
      | ((with_reducible refine wpList_store_new 23 (.tmp 2) (.tmp 46) b2 GeoD.zero.cells (GeoD.cells ⟨blocks, lbas, first⟩) 23 HB7.out rfl sizeGeo (geo_one _) ?hgd ?ho ?hx ?hy ?_); (case hgd | ho | hx | hy => rfl); (intro w9 B9 o9))
      | fail)
    (try simp only [Exit.inBlock, Exit.then]); refine bodyPost_ret (results_cell1t rfl _ _ B9.range rfl Tryz.underlying23 rfl sizeGeo) rfl ⟨rfl, o9.below HW7.out HL.out⟩
end Go.Proofs.YtppdboadjefieaaGreat

