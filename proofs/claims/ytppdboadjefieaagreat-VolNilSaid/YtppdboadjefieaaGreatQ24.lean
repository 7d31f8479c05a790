/- A volume is read (chapter 26): shown, ReadAt, Read. Walks of a segment: New, Put, Count, Leaves (chapters 16, 17). Leaves (chapter 16) and their hashes (chapter 15): what is said of one, its hash, whether they may be. -/
import Derived.Test.YtppdboadjefieaaGreatQ22
import Derived.Test.YtppdboadjefieaaGreatQ23
import Derived.Test.YtppdboadjefieaaGreatQ7
import Derived.Test.YtppdboadjefieaaGreatQ5
import Derived.Test.YtppdboadjefieaaGreatQ2
import Derived.Maps.OwnSet
import Derived.Maps.OwnOps
import Derived.Maps.StringElems
import Derived.Carry
import Derived.Deep.DeepAppendWide
import Derived.OneCell
import Derived.WalkSpells
set_option linter.unusedSimpArgs false
set_option linter.unusedVariables false
namespace Go.Proofs.YtppdboadjefieaaGreat
open Go Go.RowKit
set_option maxRecDepth 100000

set_option maxHeartbeats 4000000 in
theorem shown_walk (i : VolI) (v : VolD) (x : VersD) (en un : Nat) (lb : Int) (cph : ByteArray) (w : World) (h : VolAt w i v) (ok : VolOk v) (hd : v.data.size = 16) (hsl : x.slot = (un : Int)) (hun : (un : Int) < v.used) (hen : en < 4294967296) (hc : CellOk ⟨(en : Int), (un : Int), lb, false, cph⟩) (hb : Txt (v.d.shown (4 + (un : Int))) (cellL ⟨(en : Int), (un : Int), lb, false, cph⟩)) :
    Calls Tryz.prog 126 #[.pointer (some ⟨i.vb, 0, none⟩), .agg x.cells.toArray] w fun e w' => (∃ r, e = .returned (.tuple #[.string r, .int .i64 0]) ∧ Txt r (xorL cph.data.toList (streamL v.data.data.toList en un cph.size))) ∧ Below w.heap.size w w' := by
  have HOK := Lib.hid ok
  have HD := Lib.hid hd
  have HUN := Lib.hid hun
  have HEU := Lib.hid (show en < 4294967296 ∧ un < 4294967296 from ⟨hen, by have := ok.u1; have := ok.sup.geo.b1; omega⟩)
  have HC := Lib.hid hc
  have HCS := Lib.hid (show cph.size ≤ 4096 from by have := hc.n; simp only at this; omega)
  have HB := Lib.hid hb
  have HSL := Lib.hid hsl
  have H0 := Lib.hid h
  clear ok hd hun hen hc hb hsl h
  go_enter Tryz.func126, Tryz.ntmps126
  go_wp2_with (first
    | ((with_reducible refine wpList_box_new 154 (.tmp 1) x.cells (some 3) ?hgd ?ho ?hd ?hx ?_); (case hgd | ho | hd | hx => rfl); (intro b3 w1 l1 B1 e1 z1))
    | fail)
  have HBE1 := Lib.hid (e1.mono l1)
  have H1 := Lib.hid (H0.out.below HBE1.out)
  have HX1 := Lib.hid (show Blk w1 b3 [.int .i64 x.lba, .int .i64 x.epoch, .int .i64 (un : Int)] 154 from by rw [← HSL.out]; exact B1)
  clear B1 e1 z1 l1
  refine wp_region_held_drew (S := fun wx => wx.cell? ⟨i.vb, 0, none⟩ = some (.pointer (some ⟨i.jb, 0, none⟩)) ∧ wx.cell? ⟨b3, 2, none⟩ = some (.int .i64 (un : Int))) (by kernel_rfl) (⟨H1.out.vol.drew.cell (i := 0) rfl, HX1.out.drew.cell (i := 2) rfl⟩) (fun hHeld => ?_)
  obtain ⟨wd, hwd⟩ : ∃ wd, wd = w1.drew := ⟨_, rfl⟩
  have hbd : Below w1.heap.size w1 wd := by rw [hwd]; exact (Below.refl _ _).drew
  have Hd := Lib.hid (H1.out.below hbd)
  have HXd := Lib.hid (HX1.out.below hbd HX1.out.lt)
  have HBEd := Lib.hid (HBE1.out.trans (hbd.mono HBE1.out.size))
  rw [← hwd]
  rw [← hwd] at hHeld
  clear hwd hbd
  refine wpAnyH_take (i := 0) (v := ?_) rfl (by kernel_rfl) (by kernel_rfl) (by kernel_rfl) (fun _ _ _ h => h) (Or.inl ⟨by rfl, ?_⟩) (by assumption) ?_
  rotate_left
  · intro w hSw; (try dsimp only at hSw); go_simp; first | done | with_reducible rfl
  (try simp only [Act.put, Array.getInternal_eq_getElem, List.getElem_toArray, List.getElem_cons_succ, List.getElem_cons_zero, List.setIfInBounds_toArray, List.set_cons_zero, List.set_cons_succ])
  refine wpAnyH_take (i := 1) (v := ?_) rfl (by kernel_rfl) (by kernel_rfl) (by kernel_rfl) (fun _ _ _ h => h) (Or.inl ⟨by rfl, ?_⟩) (by assumption) ?_
  rotate_left
  · intro w hSw; (try dsimp only at hSw); go_simp; first | done | with_reducible rfl
  (try simp only [Act.put, Array.getInternal_eq_getElem, List.getElem_toArray, List.getElem_cons_succ, List.getElem_cons_zero, List.setIfInBounds_toArray, List.set_cons_zero, List.set_cons_succ])
  refine wpAnyH_take (i := 2) (v := ?_) rfl (by kernel_rfl) (by kernel_rfl) (by kernel_rfl) (fun _ _ _ h => h) (Or.inl ⟨by rfl, ?_⟩) (by assumption) ?_
  rotate_left
  · intro w hSw; (try dsimp only at hSw); go_simp; first | done | with_reducible rfl
  (try simp only [Act.put, Array.getInternal_eq_getElem, List.getElem_toArray, List.getElem_cons_succ, List.getElem_cons_zero, List.setIfInBounds_toArray, List.set_cons_zero, List.set_cons_succ])
  refine wpAnyH_take (i := 3) (v := ?_) rfl (by kernel_rfl) (by kernel_rfl) (by kernel_rfl) (fun _ _ _ h => h) (Or.inl ⟨by rfl, ?_⟩) (by assumption) ?_
  rotate_left
  · intro w hSw; (try dsimp only at hSw); go_simp; first | done | with_reducible rfl
  (try simp only [Act.put, Array.getInternal_eq_getElem, List.getElem_toArray, List.getElem_cons_succ, List.getElem_cons_zero, List.setIfInBounds_toArray, List.set_cons_zero, List.set_cons_succ])
  refine wpAnyH_take (i := 4) (v := ?_) rfl (by kernel_rfl) (by kernel_rfl) (by kernel_rfl) (fun _ _ _ h => h) (Or.inl ⟨by rfl, ?_⟩) (by assumption) ?_
  rotate_left
  · intro w hSw; (try dsimp only at hSw); go_simp; first | done | with_reducible rfl
  (try simp only [Act.put, Array.getInternal_eq_getElem, List.getElem_toArray, List.getElem_cons_succ, List.getElem_cons_zero, List.setIfInBounds_toArray, List.set_cons_zero, List.set_cons_succ])
  refine wpAnyH_take (i := 5) (v := ?_) rfl (by kernel_rfl) (by kernel_rfl) (by kernel_rfl) (fun _ _ _ h => h) (Or.inl ⟨by rfl, ?_⟩) (by assumption) ?_
  rotate_left
  · intro w hSw; (try dsimp only at hSw); go_simp; first | done | with_reducible rfl
  (try simp only [Act.put, Array.getInternal_eq_getElem, List.getElem_toArray, List.getElem_cons_succ, List.getElem_cons_zero, List.setIfInBounds_toArray, List.set_cons_zero, List.set_cons_succ])
  refine wpAnyH_ready (rs := [6]) (by kernel_rfl) (by simp) ?_
  refine AllReadyH.cons rfl (fun K hK => ?_) AllReadyH.nil
  go_simp
  refine (jread_walk i v (un : Int) _ Hd.out HOK.out (by omega) HUN.out).mono ?_
  rintro e we ⟨rfl, hbe⟩
  have He := Lib.hid (Hd.out.below hbe)
  have HXe := Lib.hid (HXd.out.below hbe HXd.out.lt)
  have HBEe := Lib.hid (HBEd.out.trans (hbe.mono HBEd.out.size))
  clear hbe
  (try go_wp2_with fail)
  refine hK.out _ _ (⟨He.out.vol.cell (i := 0) rfl, HXe.out.cell (i := 2) rfl⟩) (fun hHeld2 => ?_)
  clear hK K hHeld
  have hHeld := hHeld2
  clear hHeld2
  (try simp only [Act.put, Array.getInternal_eq_getElem, List.getElem_toArray, List.getElem_cons_succ, List.getElem_cons_zero, List.setIfInBounds_toArray, List.set_cons_zero, List.set_cons_succ])
  refine wpAnyH_take (i := 7) (v := ?_) rfl (by kernel_rfl) (by kernel_rfl) (by kernel_rfl) (fun _ _ _ h => h) (Or.inl ⟨by rfl, ?_⟩) (by assumption) ?_
  rotate_left
  · intro w hSw; (try dsimp only at hSw); go_simp; first | done | with_reducible rfl
  (try simp only [Act.put, Array.getInternal_eq_getElem, List.getElem_toArray, List.getElem_cons_succ, List.getElem_cons_zero, List.setIfInBounds_toArray, List.set_cons_zero, List.set_cons_succ])
  refine wpAnyH_take (i := 8) (v := ?_) rfl (by kernel_rfl) (by kernel_rfl) (by kernel_rfl) (fun _ _ _ h => h) (Or.inl ⟨by rfl, ?_⟩) (by assumption) ?_
  rotate_left
  · intro w hSw; (try dsimp only at hSw); go_simp; first | done | with_reducible rfl
  (try simp only [Act.put, Array.getInternal_eq_getElem, List.getElem_toArray, List.getElem_cons_succ, List.getElem_cons_zero, List.setIfInBounds_toArray, List.set_cons_zero, List.set_cons_succ])
  refine wpAnyH_take (i := 9) (v := ?_) rfl (by kernel_rfl) (by kernel_rfl) (by kernel_rfl) (fun _ _ _ h => h) (Or.inl ⟨by rfl, ?_⟩) (by assumption) ?_
  rotate_left
  · intro w hSw; (try dsimp only at hSw); go_simp; first | done | with_reducible rfl
  (try simp only [Act.put, Array.getInternal_eq_getElem, List.getElem_toArray, List.getElem_cons_succ, List.getElem_cons_zero, List.setIfInBounds_toArray, List.set_cons_zero, List.set_cons_succ])
  refine wpAnyH_take (i := 10) (v := ?_) rfl (by kernel_rfl) (by kernel_rfl) (by kernel_rfl) (fun _ _ _ h => h) (Or.inl ⟨by rfl, ?_⟩) (by assumption) ?_
  rotate_left
  · intro w hSw; (try dsimp only at hSw); go_simp; first | done | with_reducible rfl
  (try simp only [Act.put, Array.getInternal_eq_getElem, List.getElem_toArray, List.getElem_cons_succ, List.getElem_cons_zero, List.setIfInBounds_toArray, List.set_cons_zero, List.set_cons_succ])
  refine wpAnyH_take (i := 11) (v := ?_) rfl (by kernel_rfl) (by kernel_rfl) (by kernel_rfl) (fun _ _ _ h => h) (Or.inl ⟨by rfl, ?_⟩) (by assumption) ?_
  rotate_left
  · intro w hSw; (try dsimp only at hSw); go_simp; first | done | with_reducible rfl
  (try simp only [Act.put, Array.getInternal_eq_getElem, List.getElem_toArray, List.getElem_cons_succ, List.getElem_cons_zero, List.setIfInBounds_toArray, List.set_cons_zero, List.set_cons_succ])
  refine wpAnyH_done (by kernel_rfl) ?_ _
  clear hHeld
  go_wp2_with fail
  refine (cellTake1_walk ⟨(en : Int), (un : Int), lb, false, cph⟩ (v.d.shown (4 + (un : Int))) _ HB.out HC.out rfl).mono ?_
  rintro e wf ⟨rfl, hbf⟩
  have Hf := Lib.hid (He.out.below hbf)
  have HBEf := Lib.hid (HBEe.out.trans (hbf.mono HBEe.out.size))
  clear hbf
  go_upto_region 7 with (first
    | ((with_reducible refine wpList_alloc_new 158 _ zeroCell (some 8) ?hgd ?ho ?hd ?_); (case hgd | ho | hd => rfl); (intro b8 wg l8 B8 e8 z8))
    | ((with_reducible refine wpList_store_new 158 (.tmp 8) (.tmp 25) b8 zcell (CellD.cells ⟨(en : Int), (un : Int), lb, false, cph⟩) 158 B8 rfl sizeCell (cell_one _) ?hgd ?ho ?hx ?hy ?_); (case hgd | ho | hx | hy => rfl); (intro wh Bh oh))
    | fail)
  have HCh := Lib.hid Bh
  have hbh : Below wf.heap.size wf wh := oh.below (e8.mono l8) l8
  have Hh := Lib.hid (Hf.out.below hbh)
  have HBEh := Lib.hid (HBEf.out.trans (hbh.mono HBEf.out.size))
  clear Bh B8 e8 oh z8 l8 hbh
  refine wp_region_held_drew (S := fun wx => wx.cell? ⟨i.vb, 2, none⟩ = some (.string v.data) ∧ wx.cell? ⟨b8, 0, none⟩ = some (.int .i64 (en : Int)) ∧ wx.cell? ⟨b8, 1, none⟩ = some (.int .i64 (un : Int)) ∧ wx.cell? ⟨b8, 4, none⟩ = some (.string cph)) (by kernel_rfl) (⟨Hh.out.vol.drew.cell (i := 2) rfl, HCh.out.drew.cell (i := 0) rfl, HCh.out.drew.cell (i := 1) rfl, HCh.out.drew.cell (i := 4) rfl⟩) (fun hHeld => ?_)
  refine wpAnyH_take (i := 0) (v := ?_) rfl (by kernel_rfl) (by kernel_rfl) (by kernel_rfl) (fun _ _ _ h => h) (Or.inl ⟨by rfl, ?_⟩) (by assumption) ?_
  rotate_left
  · intro w hSw; (try dsimp only at hSw); go_simp; first | done | with_reducible rfl
  (try simp only [Act.put, Array.getInternal_eq_getElem, List.getElem_toArray, List.getElem_cons_succ, List.getElem_cons_zero, List.setIfInBounds_toArray, List.set_cons_zero, List.set_cons_succ])
  refine wpAnyH_take (i := 1) (v := ?_) rfl (by kernel_rfl) (by kernel_rfl) (by kernel_rfl) (fun _ _ _ h => h) (Or.inl ⟨by rfl, ?_⟩) (by assumption) ?_
  rotate_left
  · intro w hSw; (try dsimp only at hSw); go_simp; first | done | with_reducible rfl
  (try simp only [Act.put, Array.getInternal_eq_getElem, List.getElem_toArray, List.getElem_cons_succ, List.getElem_cons_zero, List.setIfInBounds_toArray, List.set_cons_zero, List.set_cons_succ])
  refine wpAnyH_take (i := 2) (v := ?_) rfl (by kernel_rfl) (by kernel_rfl) (by kernel_rfl) (fun _ _ _ h => h) (Or.inl ⟨by rfl, ?_⟩) (by assumption) ?_
  rotate_left
  · intro w hSw; (try dsimp only at hSw); go_simp; first | done | with_reducible rfl
  (try simp only [Act.put, Array.getInternal_eq_getElem, List.getElem_toArray, List.getElem_cons_succ, List.getElem_cons_zero, List.setIfInBounds_toArray, List.set_cons_zero, List.set_cons_succ])
  refine wpAnyH_take (i := 3) (v := ?_) rfl (by kernel_rfl) (by kernel_rfl) (by kernel_rfl) (fun _ _ _ h => h) (Or.inl ⟨by rfl, ?_⟩) (by assumption) ?_
  rotate_left
  · intro w hSw; (try dsimp only at hSw); go_simp; first | done | with_reducible rfl
  (try simp only [Act.put, Array.getInternal_eq_getElem, List.getElem_toArray, List.getElem_cons_succ, List.getElem_cons_zero, List.setIfInBounds_toArray, List.set_cons_zero, List.set_cons_succ])
  refine wpAnyH_take (i := 4) (v := ?_) rfl (by kernel_rfl) (by kernel_rfl) (by kernel_rfl) (fun _ _ _ h => h) (Or.inl ⟨by rfl, ?_⟩) (by assumption) ?_
  rotate_left
  · intro w hSw; (try dsimp only at hSw); go_simp; first | done | with_reducible rfl
  (try simp only [Act.put, Array.getInternal_eq_getElem, List.getElem_toArray, List.getElem_cons_succ, List.getElem_cons_zero, List.setIfInBounds_toArray, List.set_cons_zero, List.set_cons_succ])
  refine wpAnyH_take (i := 5) (v := ?_) rfl (by kernel_rfl) (by kernel_rfl) (by kernel_rfl) (fun _ _ _ h => h) (Or.inl ⟨by rfl, ?_⟩) (by assumption) ?_
  rotate_left
  · intro w hSw; (try dsimp only at hSw); go_simp; first | done | with_reducible rfl
  (try simp only [Act.put, Array.getInternal_eq_getElem, List.getElem_toArray, List.getElem_cons_succ, List.getElem_cons_zero, List.setIfInBounds_toArray, List.set_cons_zero, List.set_cons_succ])
  refine wpAnyH_take (i := 6) (v := ?_) rfl (by kernel_rfl) (by kernel_rfl) (by kernel_rfl) (fun _ _ _ h => h) (Or.inl ⟨by rfl, ?_⟩) (by assumption) ?_
  rotate_left
  · intro w hSw; (try dsimp only at hSw); go_simp; first | done | with_reducible rfl
  (try simp only [Act.put, Array.getInternal_eq_getElem, List.getElem_toArray, List.getElem_cons_succ, List.getElem_cons_zero, List.setIfInBounds_toArray, List.set_cons_zero, List.set_cons_succ])
  refine wpAnyH_take (i := 7) (v := ?_) rfl (by kernel_rfl) (by kernel_rfl) (by kernel_rfl) (fun _ _ _ h => h) (Or.inl ⟨by rfl, ?_⟩) (by assumption) ?_
  rotate_left
  · intro w hSw; (try dsimp only at hSw); go_simp; first | done | with_reducible rfl
  (try simp only [Act.put, Array.getInternal_eq_getElem, List.getElem_toArray, List.getElem_cons_succ, List.getElem_cons_zero, List.setIfInBounds_toArray, List.set_cons_zero, List.set_cons_succ])
  refine wpAnyH_take (i := 8) (v := ?_) rfl (by kernel_rfl) (by kernel_rfl) (by kernel_rfl) (fun _ _ _ h => h) (Or.inl ⟨by rfl, ?_⟩) (by assumption) ?_
  rotate_left
  · intro w hSw; (try dsimp only at hSw); go_simp; first | done | with_reducible rfl
  (try simp only [Act.put, Array.getInternal_eq_getElem, List.getElem_toArray, List.getElem_cons_succ, List.getElem_cons_zero, List.setIfInBounds_toArray, List.set_cons_zero, List.set_cons_succ])
  refine wpAnyH_take (i := 9) (v := ?_) rfl (by kernel_rfl) (by kernel_rfl) (by kernel_rfl) (fun _ _ _ h => h) (Or.inl ⟨by rfl, ?_⟩) (by assumption) ?_
  rotate_left
  · intro w hSw; (try dsimp only at hSw); go_simp; first | done | with_reducible rfl
  (try simp only [Act.put, Array.getInternal_eq_getElem, List.getElem_toArray, List.getElem_cons_succ, List.getElem_cons_zero, List.setIfInBounds_toArray, List.set_cons_zero, List.set_cons_succ])
  refine wpAnyH_ready (rs := [10]) (by kernel_rfl) (by simp) ?_
  refine AllReadyH.cons rfl (fun K hK => ?_) AllReadyH.nil
  go_simp
  refine (ctrXor_walk v.data cph en un _ HD.out HEU.out.1 HEU.out.2 HCS.out).mono ?_
  rintro e wk ⟨⟨r, rfl, tr⟩, hbk⟩
  have HTR := Lib.hid tr
  have Hk := Lib.hid (Hh.out.below ((Below.refl _ _).drew.trans hbk))
  have HCk := Lib.hid (HCh.out.drew.below hbk HCh.out.lt)
  have HBEk := Lib.hid (HBEh.out.drew.trans (hbk.mono HBEh.out.size))
  clear hbk tr
  (try go_wp2_with fail)
  refine hK.out _ _ (⟨Hk.out.vol.cell (i := 2) rfl, HCk.out.cell (i := 0) rfl, HCk.out.cell (i := 1) rfl, HCk.out.cell (i := 4) rfl⟩) (fun hHeld2 => ?_)
  clear hK K hHeld
  have hHeld := hHeld2
  clear hHeld2
  (try simp only [Act.put, Array.getInternal_eq_getElem, List.getElem_toArray, List.getElem_cons_succ, List.getElem_cons_zero, List.setIfInBounds_toArray, List.set_cons_zero, List.set_cons_succ])
  refine wpAnyH_take (i := 11) (v := ?_) rfl (by kernel_rfl) (by kernel_rfl) (by kernel_rfl) (fun _ _ _ h => h) (Or.inl ⟨by rfl, ?_⟩) (by assumption) ?_
  rotate_left
  · intro w hSw; (try dsimp only at hSw); go_simp; first | done | with_reducible rfl
  (try simp only [Act.put, Array.getInternal_eq_getElem, List.getElem_toArray, List.getElem_cons_succ, List.getElem_cons_zero, List.setIfInBounds_toArray, List.set_cons_zero, List.set_cons_succ])
  refine wpAnyH_take (i := 12) (v := ?_) rfl (by kernel_rfl) (by kernel_rfl) (by kernel_rfl) (fun _ _ _ h => h) (Or.inl ⟨by rfl, ?_⟩) (by assumption) ?_
  rotate_left
  · intro w hSw; (try dsimp only at hSw); go_simp; first | done | with_reducible rfl
  (try simp only [Act.put, Array.getInternal_eq_getElem, List.getElem_toArray, List.getElem_cons_succ, List.getElem_cons_zero, List.setIfInBounds_toArray, List.set_cons_zero, List.set_cons_succ])
  refine wpAnyH_take (i := 13) (v := ?_) rfl (by kernel_rfl) (by kernel_rfl) (by kernel_rfl) (fun _ _ _ h => h) (Or.inl ⟨by rfl, ?_⟩) (by assumption) ?_
  rotate_left
  · intro w hSw; (try dsimp only at hSw); go_simp; first | done | with_reducible rfl
  (try simp only [Act.put, Array.getInternal_eq_getElem, List.getElem_toArray, List.getElem_cons_succ, List.getElem_cons_zero, List.setIfInBounds_toArray, List.set_cons_zero, List.set_cons_succ])
  refine wpAnyH_take (i := 14) (v := ?_) rfl (by kernel_rfl) (by kernel_rfl) (by kernel_rfl) (fun _ _ _ h => h) (Or.inl ⟨by rfl, ?_⟩) (by assumption) ?_
  rotate_left
  · intro w hSw; (try dsimp only at hSw); go_simp; first | done | with_reducible rfl
  (try simp only [Act.put, Array.getInternal_eq_getElem, List.getElem_toArray, List.getElem_cons_succ, List.getElem_cons_zero, List.setIfInBounds_toArray, List.set_cons_zero, List.set_cons_succ])
  refine wpAnyH_done (by kernel_rfl) ?_ _
  clear hHeld
  go_wp2_with fail
  go_ret2
  exact ⟨⟨r, rfl, HTR.out⟩, HBEk.out⟩
set_option maxHeartbeats 4000000 in
theorem readAt_walk (i : VolI) (v : VolD) (lba epoch : Int) (x : VersD) (en un : Nat) (lb : Int) (cph : ByteArray) (w : World) (h : VolAt w i v) (ok : VolOk v) (hd : v.data.size = 16) (l0 : 0 ≤ lba) (l1 : lba < v.last.geo.lbas) (e0 : v.last.geo.first ≤ epoch) (e1 : epoch ≤ v.epoch) (hx : NewestIs v.vers lba epoch x) (hvn : v.vers.length ≤ 1048576) (hxe : 0 ≤ x.epoch ∧ x.epoch ≤ 4294967295) (hgo : v.G.atKey (.int .i64 x.epoch) (.lit (.bool false)) = .lit (.bool false))
    (hsl : x.slot = (un : Int)) (hun : (un : Int) < v.used) (hen : en < 4294967296) (hc : CellOk ⟨(en : Int), (un : Int), lb, false, cph⟩) (hb : Txt (v.d.shown (4 + (un : Int))) (cellL ⟨(en : Int), (un : Int), lb, false, cph⟩)) :
    Calls Tryz.prog 53 #[.pointer (some ⟨i.vb, 0, none⟩), .int .i64 lba, .int .i64 epoch] w fun e w' => (∃ r, e = .returned (.tuple #[.string r, .int .i64 0]) ∧ Txt r (xorL cph.data.toList (streamL v.data.data.toList en un cph.size))) ∧ Below w.heap.size w w' := by
  have hfa : ∀ (a b c : Int) (w : World), Sem.run Tryz.prog (Instr.field 23 (.agg #[.int .i64 a, .int .i64 b, .int .i64 c]) 2) w = .ok (.int .i64 c) w := fun _ _ _ _ => by kernel_rfl
  have HGE := Lib.hid (fun (wx : World) (hx : VolAt wx i v) => vgeo_walk i v wx hx)
  obtain ⟨⟨blocks, lbas, first⟩, hl⟩ : ∃ s, v.last.geo = s := ⟨_, rfl⟩
  have HGV := Lib.hid (fun (wx : World) (hx : VolAt wx i v) => show Calls Tryz.prog 28 #[.pointer (some ⟨i.vb, 0, none⟩)] wx fun e w' => e = .returned (.agg #[.int .i64 blocks, .int .i64 lbas, .int .i64 first]) ∧ Below wx.heap.size wx w' from by have := HGE.out wx hx; rw [hl] at this; exact this)
  have e0' : ¬ epoch < first := by rw [hl] at e0; simp only at e0; omega
  obtain ⟨ve, hve⟩ : ∃ ve, v.epoch = ve := ⟨_, rfl⟩
  have HVE := Lib.hid hve
  have e1' : ¬ ve < epoch := by omega
  have HLB := Lib.hid (And.intro l0 l1)
  have HNW := Lib.hid hx
  have HVN := Lib.hid hvn
  have HXE := Lib.hid hxe
  have HGO := Lib.hid hgo
  have HSH := Lib.hid (fun (wx : World) (hx : VolAt wx i v) => shown_walk i v x en un lb cph wx hx ok hd hsl hun hen hc hb)
  have H0 := Lib.hid h
  clear HGE hl e0 e1 l0 l1 hx hvn hxe hgo ok hd hsl hun hen hc hb h hve
  go_enter Tryz.func53, Tryz.ntmps53
  go_wp2_with fail
  refine (vplace_walk i v lba _ H0.out HLB.out.1 HLB.out.2).mono ?_
  rintro e w1 ⟨rfl, hb1⟩
  have HBE1 := Lib.hid hb1
  have H1 := Lib.hid (H0.out.below hb1)
  clear hb1
  have c3 : w1.cell? ⟨i.vb, 3, none⟩ = some (.pointer (some ⟨i.xb, 0, none⟩)) := H1.out.vol.cell (i := 3) rfl
  go_wp2_with fail
  refine (newest_walk i.xb v.vers.length i.xv v.vers lba epoch x _ H1.out.index H1.out.vers rfl HVN.out HNW.out).mono ?_
  rintro e w2 ⟨rfl, hb2⟩
  have HBE2 := Lib.hid (HBE1.out.trans (hb2.mono HBE1.out.size))
  have H2 := Lib.hid (H1.out.below hb2)
  clear hb2 c3
  go_upto_region 5 with (first
    | ((with_reducible refine wpList_alloc_new 154 _ zeroVers (some 9) ?hgd ?ho ?hd ?_); (case hgd | ho | hd => rfl); (intro b9 w3 l9 B9 e9 z9))
    | ((with_reducible refine wpList_store_new 154 (.tmp 9) (.tmp 25) b9 (VersD.cells ⟨0, 0, 0⟩) x.cells 154 B9 rfl sizeVers (vers_one _) ?hgd ?ho ?hx ?hy ?_); (case hgd | ho | hx | hy => rfl); (intro w4 B4 o4))
    | fail)
  have HX4 := Lib.hid B4
  have hb4 : Below w2.heap.size w2 w4 := o4.below (e9.mono l9) l9
  have H4 := Lib.hid (H2.out.below hb4)
  have HBE4 := Lib.hid (HBE2.out.trans (hb4.mono HBE2.out.size))
  clear B4 B9 e9 o4 z9 l9 hb4
  go_wp2_with fail
  refine (HGV.out _ H4.out).mono ?_
  rintro e w5 ⟨rfl, hb5⟩
  have H5 := Lib.hid (H4.out.below hb5)
  have HX5 := Lib.hid (HX4.out.below hb5 HX4.out.lt)
  have HBE5 := Lib.hid (HBE4.out.trans (hb5.mono HBE4.out.size))
  clear hb5
  have c5 : w5.cell? ⟨i.vb, 5, none⟩ = some (.pointer (some ⟨i.bb, 0, none⟩)) := H5.out.vol.cell (i := 5) rfl
  go_wp2_with fail
  refine (bookEpoch_walk i.bb i.c2 v.first ve i.m1 i.m2 i.m3 _ (by rw [← HVE.out]; exact H5.out.book)).mono ?_
  rintro e w' ⟨rfl, rfl⟩
  go_upto_region 7 with fail
  clear c5
  refine wp_region_held_drew (S := fun wx => wx.cell? ⟨i.vb, 5, none⟩ = some (.pointer (some ⟨i.bb, 0, none⟩)) ∧ wx.cell? ⟨b9, 1, none⟩ = some (.int .i64 x.epoch)) (by kernel_rfl) (⟨H5.out.vol.drew.cell (i := 5) rfl, HX5.out.drew.cell (i := 1) rfl⟩) (fun hHeld => ?_)
  refine wpAnyH_take (i := 0) (v := ?_) rfl (by kernel_rfl) (by kernel_rfl) (by kernel_rfl) (fun _ _ _ h => h) (Or.inl ⟨by rfl, ?_⟩) (by assumption) ?_
  rotate_left
  · intro w hSw; (try dsimp only at hSw); go_simp; first | done | with_reducible rfl
  (try simp only [Act.put, Array.getInternal_eq_getElem, List.getElem_toArray, List.getElem_cons_succ, List.getElem_cons_zero, List.setIfInBounds_toArray, List.set_cons_zero, List.set_cons_succ])
  refine wpAnyH_take (i := 1) (v := ?_) rfl (by kernel_rfl) (by kernel_rfl) (by kernel_rfl) (fun _ _ _ h => h) (Or.inl ⟨by rfl, ?_⟩) (by assumption) ?_
  rotate_left
  · intro w hSw; (try dsimp only at hSw); go_simp; first | done | with_reducible rfl
  (try simp only [Act.put, Array.getInternal_eq_getElem, List.getElem_toArray, List.getElem_cons_succ, List.getElem_cons_zero, List.setIfInBounds_toArray, List.set_cons_zero, List.set_cons_succ])
  refine wpAnyH_take (i := 2) (v := ?_) rfl (by kernel_rfl) (by kernel_rfl) (by kernel_rfl) (fun _ _ _ h => h) (Or.inl ⟨by rfl, ?_⟩) (by assumption) ?_
  rotate_left
  · intro w hSw; (try dsimp only at hSw); go_simp; first | done | with_reducible rfl
  (try simp only [Act.put, Array.getInternal_eq_getElem, List.getElem_toArray, List.getElem_cons_succ, List.getElem_cons_zero, List.setIfInBounds_toArray, List.set_cons_zero, List.set_cons_succ])
  refine wpAnyH_take (i := 3) (v := ?_) rfl (by kernel_rfl) (by kernel_rfl) (by kernel_rfl) (fun _ _ _ h => h) (Or.inl ⟨by rfl, ?_⟩) (by assumption) ?_
  rotate_left
  · intro w hSw; (try dsimp only at hSw); go_simp; first | done | with_reducible rfl
  (try simp only [Act.put, Array.getInternal_eq_getElem, List.getElem_toArray, List.getElem_cons_succ, List.getElem_cons_zero, List.setIfInBounds_toArray, List.set_cons_zero, List.set_cons_succ])
  refine wpAnyH_take (i := 4) (v := ?_) rfl (by kernel_rfl) (by kernel_rfl) (by kernel_rfl) (fun _ _ _ h => h) (Or.inl ⟨by rfl, ?_⟩) (by assumption) ?_
  rotate_left
  · intro w hSw; (try dsimp only at hSw); go_simp; first | done | with_reducible rfl
  (try simp only [Act.put, Array.getInternal_eq_getElem, List.getElem_toArray, List.getElem_cons_succ, List.getElem_cons_zero, List.setIfInBounds_toArray, List.set_cons_zero, List.set_cons_succ])
  refine wpAnyH_take (i := 5) (v := ?_) rfl (by kernel_rfl) (by kernel_rfl) (by kernel_rfl) (fun _ _ _ h => h) (Or.inl ⟨by rfl, ?_⟩) (by assumption) ?_
  rotate_left
  · intro w hSw; (try dsimp only at hSw); go_simp; first | done | with_reducible rfl
  (try simp only [Act.put, Array.getInternal_eq_getElem, List.getElem_toArray, List.getElem_cons_succ, List.getElem_cons_zero, List.setIfInBounds_toArray, List.set_cons_zero, List.set_cons_succ])
  refine wpAnyH_ready (rs := [6]) (by kernel_rfl) (by simp) ?_
  refine AllReadyH.cons rfl (fun K hK => ?_) AllReadyH.nil
  go_simp
  refine (bookGone_walk i.bb i.c2 i.m1 i.m2 i.m3 v.n v.first v.epoch x.epoch v.U v.L v.G false _ H5.out.book.drew (H5.out.below (Below.refl _ _).drew).maps HXE.out.1 HXE.out.2 HGO.out).mono ?_
  rintro e w' ⟨rfl, rfl⟩
  (try go_wp2_with fail)
  refine hK.out _ _ (⟨H5.out.vol.drew.cell (i := 5) rfl, HX5.out.drew.cell (i := 1) rfl⟩) (fun hHeld2 => ?_)
  clear hK K hHeld
  have hHeld := hHeld2
  clear hHeld2
  (try simp only [Act.put, Array.getInternal_eq_getElem, List.getElem_toArray, List.getElem_cons_succ, List.getElem_cons_zero, List.setIfInBounds_toArray, List.set_cons_zero, List.set_cons_succ])
  refine wpAnyH_take (i := 7) (v := ?_) rfl (by kernel_rfl) (by kernel_rfl) (by kernel_rfl) (fun _ _ _ h => h) (Or.inl ⟨by rfl, ?_⟩) (by assumption) ?_
  rotate_left
  · intro w hSw; (try dsimp only at hSw); go_simp; first | done | with_reducible rfl
  (try simp only [Act.put, Array.getInternal_eq_getElem, List.getElem_toArray, List.getElem_cons_succ, List.getElem_cons_zero, List.setIfInBounds_toArray, List.set_cons_zero, List.set_cons_succ])
  refine wpAnyH_done (by kernel_rfl) ?_ _
  clear hHeld
  go_wp2_with (first
    | ((with_reducible refine wpList_load_blk 154 (.tmp 9) b9 x.cells 154 _ HX5.out.drew Tryz.underlying154 rfl sizeVers ?hgd ?ho ?hx ?_); (case hgd | ho | hx => rfl))
    | fail)
  refine (HSH.out _ (H5.out.below (Below.refl _ _).drew)).mono ?_
  rintro e w6 ⟨⟨r, rfl, tr⟩, hb6⟩
  have HTR := Lib.hid tr
  have HBE6 := Lib.hid (HBE5.out.drew.trans (hb6.mono HBE5.out.size))
  clear tr hb6
  go_wp2_with fail
  go_ret2
  exact ⟨⟨r, rfl, HTR.out⟩, HBE6.out⟩
set_option maxHeartbeats 1000000 in
theorem read_walk (i : VolI) (v : VolD) (lba : Int) (r : ByteArray) (w : World) (h : VolAt w i v) (l : List UInt8)
    (hra : ∀ wx, VolAt wx i v → Calls Tryz.prog 53 #[.pointer (some ⟨i.vb, 0, none⟩), .int .i64 lba, .int .i64 v.epoch] wx fun e w' => (∃ r, e = .returned (.tuple #[.string r, .int .i64 0]) ∧ Txt r l) ∧ Below wx.heap.size wx w') :
    Calls Tryz.prog 54 #[.pointer (some ⟨i.vb, 0, none⟩), .int .i64 lba] w fun e w' => (∃ r, e = .returned (.tuple #[.string r, .int .i64 0]) ∧ Txt r l) ∧ Below w.heap.size w w' := by
  have HRA := Lib.hid hra
  clear hra
  have c5 : w.cell? ⟨i.vb, 5, none⟩ = some (.pointer (some ⟨i.bb, 0, none⟩)) := h.vol.cell (i := 5) rfl
  go_enter Tryz.func54, Tryz.ntmps54
  go_wp2_with fail
  refine (vthere_walk i v _ h).mono ?_
  rintro e w' ⟨rfl, rfl⟩
  go_wp2_with fail
  refine (bookEpoch_walk i.bb i.c2 v.first v.epoch i.m1 i.m2 i.m3 _ h.book).mono ?_
  rintro e w' ⟨rfl, rfl⟩
  go_wp2_with fail
  refine (HRA.out _ h).mono ?_
  rintro e w1 ⟨⟨r, rfl, tr⟩, hb⟩
  have HTR := Lib.hid tr
  have HB := Lib.hid hb
  clear tr hb
  go_wp2_with fail
  go_ret2
  exact ⟨⟨r, rfl, HTR.out⟩, HB.out⟩
end Go.Proofs.YtppdboadjefieaaGreat

namespace Go.Proofs.YtppdboadjefieaaGreat
open Go Go.RowKit Go.Maps Go.WideMaps
set_option maxRecDepth 100000

theorem keyedInt17 : Keyed Tryz.prog 3 := int_keyed Tryz.underlying3
theorem zeroStr17 (w : World) : (zeroValue 9).run Tryz.prog w = .ok (.string ByteArray.empty) w := by kernel_rfl
theorem keyInt17 {k : Int} (h0 : 0 ≤ k) (hk : k ≤ 4294967296) : keyOf Tryz.prog 3 (.int .i64 k) = some (.int .i64 k) := keyOf_int_mk Tryz.underlying3 (WalkArith.wf_i64 (by omega))
theorem infoInt17 : (Tryz.prog.info? 3).map (fun i => (i.zero, i.size, i.bytes)) = some (some (.int .i64 0), 1, 8) := by kernel_rfl
theorem infoLeaf17 : (Tryz.prog.info? 70).map (fun i => (i.zero, i.size, i.bytes)) = some (some (.agg #[.int .i64 0, .string ByteArray.empty]), 2, 24) := by kernel_rfl
theorem mapNe17 (B : Nat) (w : World) : (binOp .neq 225 (.map (some B)) (.map none)).run Tryz.prog w = .ok (.bool true) w := run_neq_map_nil w 225 3 9 (some B) Tryz.underlying225
def dataH (ep slot : Int) (c : List UInt8) : List UInt8 := sha (packL [4, 4] [ep, slot] ++ c)
theorem dataH_length (ep slot : Int) (c : List UInt8) : (dataH ep slot c).length = 32 := sha_length _
theorem packOk17 {ep slot : Int} (e0 : 0 ≤ ep) (e1 : ep ≤ 4294967295) (s0 : 0 ≤ slot) (s1 : slot ≤ 4294967295) : PackOk [4, 4] [ep, slot] := ⟨rfl, fun i a x ha hx => by
  rcases i with _ | _ | i
  · simp at ha hx; subst ha hx; simp; omega
  · simp at ha hx; subst ha hx; simp; omega
  · simp at ha⟩
set_option maxHeartbeats 1000000 in
theorem data_walk (ep slot : Int) (c : ByteArray) (w : World) (e0 : 0 ≤ ep) (e1 : ep ≤ 4294967295) (s0 : 0 ≤ slot) (s1 : slot ≤ 4294967295) (hc : c.size ≤ 4096) :
    Calls Tryz.prog 225 #[.int .i64 ep, .int .i64 slot, .string c] w fun e w' => (∃ r, e = .returned (.tuple #[.string r, .int .i64 0]) ∧ Txt r (dataH ep slot c.data.toList)) ∧ Below w.heap.size w w' := by
  go_enter Tryz.func225, Tryz.ntmps225
  go_wp2_with (first
    | ((with_reducible refine wpList_slice_new 58 3 2 ?parts [.int .i64 4, .int .i64 4] (.int .i64 0) 1 8 (some 11) Tryz.underlying58 infoInt17 (by omega) (by omega) ?hgd ?ho ?hd ?hf ?_); (case hgd | ho | hd => rfl); (case hf => kernel_rfl); (intro g1 w1 l1 B1 e1 z1))
    | fail)
  obtain ⟨w2, hw2⟩ : ∃ w2, w2 = w1.alloc (Obj.cells #[Value.int IntKind.i64 ep, Value.int IntKind.i64 slot] 3) := ⟨_, rfl⟩
  have B2 : Blk w2 w1.heap.size [.int .i64 ep, .int .i64 slot] 3 := by rw [hw2]; exact Blk.new w1 _ _
  have e2 : Below w1.heap.size w1 w2 := by rw [hw2]; exact (Below.refl _ _).alloc (Nat.le_refl _) _
  have l2 : w1.heap.size ≤ w1.heap.size := Nat.le_refl _
  rw [← hw2]
  clear hw2
  have HB2 := Lib.hid (show Below w.heap.size w w2 from (e1.mono l1).trans (e2.mono (by have := e1.size; omega)))
  refine (opack_walk _ _ [4, 4] [ep, slot] _ (IntRow.blk (xs := [4, 4]) (B1.below e2 (Nat.lt_of_lt_of_le B1.lt l2)) rfl 2) (IntRow.blk (xs := [ep, slot]) B2 rfl 2) (by simp) (by simp) (packOk17 (by assumption) (by assumption) (by assumption) (by assumption))).mono ?_
  rintro e w3 ⟨r, rfl, tr, hb3⟩
  have HTR := Lib.hid tr
  have hr : r.size = 8 := by rw [tr.size]; simp [packL, beBytes_length]
  have HR := Lib.hid hr
  have HB3 := Lib.hid (HB2.out.trans (hb3.mono HB2.out.size))
  clear B1 B2 e2 l1 l2 z1 hb3 tr hr
  go_wp2_with fail
  refine (sum_two r c _ _ (by rw [HR.out]; omega)).mono ?_
  rintro e w4 ⟨t, rfl, tt, hb4⟩
  have HTT := Lib.hid (show Txt t (dataH ep slot c.data.toList) from tt.cast (by unfold dataH; rw [show r.data.toList = _ from HTR.out]))
  have HB4 := Lib.hid (HB3.out.trans (hb4.mono HB3.out.size))
  clear tt hb4
  go_wp2_with fail
  go_ret2
  exact ⟨⟨t, rfl, HTT.out⟩, HB4.out⟩
structure SegIs (D : DataW Unit) (f : Int → Option (List UInt8)) : Prop where
  map : IsMap D
  has : ∀ k, Maps.has D (.int .i64 k) = (f k).isSome
  val : ∀ k x, f k = some x → ∀ zd, D.atKey (.int .i64 k) zd = .lit (.string x)
theorem SegIs.none : SegIs (.map []) (fun _ => none) := ⟨isMap_empty, fun _ => rfl, fun _ _ h => by cases h⟩
theorem SegIs.put {D : DataW Unit} {f : Int → Option (List UInt8)} (h : SegIs D f) (k : Int) (x : List UInt8) : SegIs (D.put (.int .i64 k) (.lit (.string x))) (fun j => if j = k then some x else f j) := by
  refine ⟨h.map.put _ _, fun j => ?_, fun j y hj zd => ?_⟩
  · by_cases hjk : j = k
    · subst hjk; rw [has_put_same h.map (show WideAt.IsKeyLit (.int .i64 j) from trivial)]; simp
    · rw [has_put_other (by intro e; injection e with _ e; exact hjk e), h.has j, if_neg hjk]
  · by_cases hjk : j = k
    · subst hjk
      rw [if_pos rfl] at hj
      obtain rfl := Option.some.inj hj
      rw [atKey_put_same h.map (show WideAt.IsKeyLit (.int .i64 j) from trivial)]
    · rw [if_neg hjk] at hj
      rw [atKey_put_other (by intro e; injection e with _ e; exact hjk e)]
      exact h.val j y hj zd
structure SegAt (w : World) (ps B n : Nat) (ep : Int) (D : DataW Unit) : Prop where
  blk : Blk w ps [.int .i64 ep, .map (some B)] 227
  map : w.ownsMap Tryz.prog 3 (plainElem Tryz.prog 9) B n D
  ne : B ≠ ps
theorem SegAt.below {w w' : World} {ps B n : Nat} {ep : Int} {D : DataW Unit} (h : SegAt w ps B n ep D) (hb : Below w.heap.size w w') : SegAt w' ps B n ep D :=
  ⟨h.blk.below hb h.blk.lt, h.map.kept (below_grown hb) (by simp), h.ne⟩
set_option maxHeartbeats 1000000 in
theorem segNew_walk (ep : Int) (w : World) (e0 : 0 ≤ ep) (e1 : ep ≤ 4294967295) :
    Calls Tryz.prog 130 #[.int .i64 ep] w fun e w' => (∃ ps B, e = .returned (.tuple #[.pointer (some ⟨ps, 0, none⟩), .int .i64 0]) ∧ SegAt w' ps B 0 ep (.map []) ∧ w.heap.size ≤ B ∧ w.heap.size ≤ ps) ∧ Below w.heap.size w w' := by
  have hmm := @run_makeMap Tryz.prog
  go_enter Tryz.func130, Tryz.ntmps130
  go_wp2_with (first
    | ((with_reducible refine wpList_box_new 227 (.tmp 12) ([.int .i64 ep, .map (some w.heap.size)]) (some 13) ?hgd ?ho ?hd ?hx ?_); (case hgd | ho | hd | hx => rfl); (intro b3 w3 l3 B3 e3 z3))
    | fail)
  have hgt : w.heap.size < b3 := by simp at l3; omega
  have own0 : w3.ownsMap Tryz.prog 3 (plainElem (H := Unit) Tryz.prog 9) w.heap.size 0 (.map []) :=
    (World.ownsMap_made w Tryz.prog 3 _).kept (below_grown (e3.mono l3)) (by simp)
  go_ret2
  exact ⟨⟨b3, w.heap.size, rfl, ⟨B3, own0, by omega⟩, Nat.le_refl _, by omega⟩, ((Below.refl _ _).alloc (Nat.le_refl _) _).trans (e3.mono (by omega))⟩
theorem segThere_walk (ps B n : Nat) (ep : Int) (D : DataW Unit) (w : World) (h : SegAt w ps B n ep D) :
    Calls Tryz.prog 138 #[.pointer (some ⟨ps, 0, none⟩)] w fun e w' => e = .returned (.bool true) ∧ w = w' := by
  have c1 := h.blk.cell (i := 1) rfl
  have hnn := mapNe17 B
  go_enter Tryz.func138, Tryz.ntmps138
  go_wp2_with fail
  go_ret
  exact ⟨rfl, rfl⟩
set_option maxHeartbeats 1000000 in
theorem segPut_walk (ps B n : Nat) (ep lba slot : Int) (c : ByteArray) (D : DataW Unit) (W0 w : World) (h : SegAt w ps B n ep D) (hb : Below W0.heap.size W0 w) (hB : W0.heap.size ≤ B) (hn : n < 4096) (e0 : 0 ≤ ep) (e1 : ep ≤ 4294967295) (s0 : 0 ≤ slot) (s1 : slot ≤ 4294967295) (l0 : 0 ≤ lba) (l1 : lba < 4096) (hc : c.size ≤ 4000) :
    Calls Tryz.prog 132 #[.pointer (some ⟨ps, 0, none⟩), .int .i64 lba, .int .i64 slot, .string c] w fun e w' => (e = .returned (.int .i64 0) ∧ SegAt w' ps B (n + 1) ep (D.put (.int .i64 lba) (.lit (.string (dataH ep slot c.data.toList))))) ∧ Below W0.heap.size W0 w' := by
  have hci : (c.size : Int) ≤ 4000 := by omega
  have HS := Lib.hid h
  have HB := Lib.hid hb
  have HNN := Lib.hid hn
  clear h hb
  go_enter Tryz.func132, Tryz.ntmps132
  go_wp2_with fail
  refine (segThere_walk ps B n _ _ _ HS.out).mono ?_
  rintro e w1 ⟨rfl, rfl⟩
  have c0 := HS.out.blk.cell (i := 0) rfl
  have c1 := HS.out.blk.cell (i := 1) rfl
  go_wp2_with fail
  clear c0 c1
  refine (data_walk ep slot c _ e0 e1 s0 s1 (by omega)).mono ?_
  rintro e w2 ⟨⟨r, rfl, tr⟩, hb2⟩
  have HTR := Lib.hid tr
  have hr : r.size = 32 := by rw [tr.size, dataH_length]
  have HS2 := Lib.hid (HS.out.below hb2)
  have HB2 := Lib.hid (HB.out.trans (hb2.mono HB.out.size))
  have c1 := HS2.out.blk.cell (i := 1) rfl
  have hkey := keyInt17 (k := lba) l0 (by omega)
  clear hb2 tr
  go_wp2_with (first
    | (at_mapUpdate; refine wpList_mapUpdate_own _ rfl _ _ _ 225 rfl 3 9 keyedInt17 Tryz.underlying225 _ B n D rfl HS2.out.map (by have := HNN.out; unfold maxLen; omega) _ _ _ rfl rfl hkey _ [] (plainElem_string Tryz.underlying9 (by rw [hr]; unfold maxLen; omega)) ?_; intro w6 own6 grow6)
    | fail)
  have P6 := HS2.out.blk.grown grow6 (by intro h; injection h with h; exact HS.out.ne h.symm)
  go_ret
  rw [show r.data.toList = _ from HTR.out] at own6
  exact ⟨⟨rfl, ⟨P6, own6, HS.out.ne⟩⟩, below_some HB2.out grow6 hB HB2.out.size⟩
theorem wpList_lookup_own_ok_strv {P : Program} (w : World) {ops : Array Oper} {rest : List Oper} {o : Oper} {a : Act} {Q : Exit → Act → World → Prop} (hg : o.guard = none) (m x : Operand) (t : TypeId) (hop : o.op = Op.lookup t m x true)
    (k e : TypeId) (K : Keyed P k) (ht : P.underlying t = some (.map k e)) (he : P.underlying e = some .string) (hz : (zeroValue e).run P w = .ok (.string ByteArray.empty) w) (b n : Nat) (D : DataW Unit)
    (hm : a.eval m = .map (some b)) (hown : w.ownsMap P k (plainElem P e) b n D) (key : Value) (kl : Lit) (hx : a.eval x = key) (hkey : keyOf P k key = some kl)
    (hK : ∀ s : ByteArray, D.atKey kl (.lit (.string ByteArray.empty.data.toList)) = .lit (.string s.data.toList) → wpList P ops Q rest (a.put o.dst (.tuple #[.string s, .bool (Maps.has D kl)])) w) :
    wpList P ops Q (o :: rest) a w :=
  wpList_lookup_own_ok w hg m x t hop k e K ht (plainElem P e) hz (.lit (.string ByteArray.empty.data.toList)) [] (plainElem_string he (by show 0 ≤ _; omega)) b n D hm hown key kl hx hkey (fun v ps hv => by
    obtain ⟨s, rfl, h2, _⟩ := plainElem_string_inv he hv
    exact hK s (congrArg Prod.fst h2))
structure LeafH where
  lba : Int
  hash : ByteArray
def LeafH.cells (x : LeafH) : List Value := [.int .i64 x.lba, .string x.hash]
def flatH (l : List LeafH) : List Value := l.flatMap LeafH.cells
theorem flatH_append (a b : List LeafH) : flatH (a ++ b) = flatH a ++ flatH b := by simp [flatH]
def leavesTo (f : Int → Option (List UInt8)) (k : Nat) : List LeafH := (List.range k).filterMap fun (i : Nat) => (f (i : Int)).map fun x => ⟨(i : Int), ⟨x.toArray⟩⟩
theorem leavesTo_yes {f : Int → Option (List UInt8)} {k : Nat} {x : List UInt8} (h : f (k : Int) = some x) : leavesTo f (k + 1) = leavesTo f k ++ [⟨(k : Int), ⟨x.toArray⟩⟩] := by simp [leavesTo, List.range_succ, h]
theorem leavesTo_no {f : Int → Option (List UInt8)} {k : Nat} (h : f (k : Int) = none) : leavesTo f (k + 1) = leavesTo f k := by simp [leavesTo, List.range_succ, h]
theorem leavesTo_le (f : Int → Option (List UInt8)) (k : Nat) : (leavesTo f k).length ≤ k := by
  unfold leavesTo
  exact Nat.le_trans (List.length_filterMap_le _ _) (by simp)
set_option maxHeartbeats 2000000 in
theorem segLeaves_walk (ps B n : Nat) (ep : Int) (D : DataW Unit) (f : Int → Option (List UInt8)) (w : World) (h : SegAt w ps B n ep D) (hD : SegIs D f) :
    Calls Tryz.prog 140 #[.pointer (some ⟨ps, 0, none⟩)] w fun e w' => (∃ vo, e = .returned vo ∧ w'.ownsRow w.heap.size 70 2 vo (leavesTo f 4096).length (flatH (leavesTo f 4096))) ∧ Below w.heap.size w w' := by
  have HS := Lib.hid h
  have HD := Lib.hid hD
  clear h hD
  obtain ⟨i0, hi, hz0, hz1, hz2⟩ := info_parts infoLeaf17
  go_enter Tryz.func140, Tryz.ntmps140
  go_wp2_with fail
  refine (segThere_walk ps B n _ _ _ HS.out).mono ?_
  rintro e w1 ⟨rfl, rfl⟩
  go_wp2_with fail
  go_loopw [3, 10] (fun vo i wr => ∃ k : Nat, k ≤ 4096 ∧ i = .int .i64 k ∧ wr.ownsRow w.heap.size 70 2 vo (leavesTo f k).length (flatH (leavesTo f k)) ∧ Below w.heap.size w wr) (fun _ i _ => 4096 - (intOf i).toNat)
  case atStart => exact ⟨0, by omega, rfl, World.ownsRow_nil _ _ _ _, Below.refl _ _⟩
  case round =>
    obtain ⟨k, hk, rfl, hvo, hbel⟩ := hrel
    have HV := Lib.hid hvo
    have HB := Lib.hid hbel
    have HSR := Lib.hid (HS.out.below hbel)
    clear hvo hbel
    by_cases hlt : k < 4096
    · have hlt' : (k : Int) < 4096 := by omega
      have c1 := HSR.out.blk.cell (i := 1) rfl
      have hkey := keyInt17 (k := (k : Int)) (by omega) (by omega)
      obtain ⟨q, hq⟩ : ∃ q, f (k : Int) = q := ⟨_, rfl⟩
      cases q with
      | some x =>
        have hhas : Maps.has D (.int .i64 (k : Int)) = true := by rw [HD.out.has, hq]; rfl
        have HQ := Lib.hid hq
        clear hq
        have hlen := leavesTo_le f k
        obtain ⟨n0, hn0⟩ : ∃ n0, (leavesTo f k).length = n0 := ⟨_, rfl⟩
        have HN0 := Lib.hid hn0
        have hn1 : n0 ≤ 4096 := by omega
        clear hn0 hlen
        have hvo := HV.out
        rw [HN0.out] at hvo
        have HV2 := Lib.hid hvo
        clear hvo
        go_wp2_with (first
          | (at_lookup; refine wpList_lookup_own_ok_strv _ rfl _ _ 225 rfl 3 9 keyedInt17 Tryz.underlying225 Tryz.underlying9 (zeroStr17 _) B n D rfl HSR.out.map _ _ rfl hkey ?_; intro s hs0; have HSV := Lib.hid hs0; clear hs0)
          | ((with_reducible refine wpList_slice_new 229 70 1 ?parts [.int .i64 (k : Int), .string s] (.agg #[.int .i64 0, .string ByteArray.empty]) 2 24 (some 27) Tryz.underlying229 infoLeaf17 (by omega) (by omega) ?hgd ?ho ?hd ?hf ?_); (case hgd | ho | hd => rfl); (case hf => kernel_rfl); (intro g7 w7 l7 B7 e7 z7); (have hb7 := HB.out.trans (e7.mono (Nat.le_trans HB.out.size l7))); (have own7 := own_below (e7.mono l7) HV2.out))
          | (at_builtin; refine wpList_append_own_wide _ rfl _ _ 229 rfl w.heap.size 70 i0 (.agg #[.int .i64 0, .string ByteArray.empty]) 2 24 Tryz.underlying229 hi hz0 hz1 hz2 rfl (by decide) _ n0 _ rfl own7 ⟨g7, 0, none⟩ 1 1 [.int .i64 (k : Int), .string s] rfl rfl (cells_add B7) (by intro v hv; simp at hv; rcases hv with rfl | rfl <;> rfl) (by unfold maxLen; omega) (by omega) hb7.size ?_; intro v' w8 own8 grow8 nil8)
          | fail)
        have hsx : s = ⟨x.toArray⟩ := by
          have h1 := HSV.out
          rw [HD.out.val _ _ HQ.out] at h1
          injection h1 with h1
          injection h1 with h1
          exact Txt.of (show Txt s x from h1.symm)
        go_roundw
        case rel =>
          refine ⟨k + 1, by omega, by go_num, ?_, below_own hb7 own7 grow8 (Nat.le_refl _) hb7.size⟩
          rw [leavesTo_yes HQ.out, flatH_append, List.length_append, HN0.out]
          rw [hsx] at own8
          exact own8
        case measure => simp [intOf]; omega
      | none =>
        have hhas : Maps.has D (.int .i64 (k : Int)) = false := by rw [HD.out.has, hq]; rfl
        have HQ := Lib.hid hq
        clear hq
        go_wp2_with (first
          | (at_lookup; refine wpList_lookup_own_ok_strv _ rfl _ _ 225 rfl 3 9 keyedInt17 Tryz.underlying225 Tryz.underlying9 (zeroStr17 _) B n D rfl HSR.out.map _ _ rfl hkey ?_; intro s hs0; clear hs0)
          | fail)
        go_roundw
        case rel =>
          refine ⟨k + 1, by omega, by go_num, ?_, HB.out⟩
          rw [leavesTo_no HQ.out]
          exact HV.out
        case measure => simp [intOf]; omega
    · obtain rfl : k = 4096 := by omega
      go_wp2_with fail
      go_ret
      exact ⟨⟨_, rfl, HV.out⟩, HB.out⟩
end Go.Proofs.YtppdboadjefieaaGreat

namespace Go.Proofs.YtppdboadjefieaaGreat
open Go Go.RowKit Go.Maps Go.WideMaps
set_option maxRecDepth 100000

def saidH (x : LeafH) : List UInt8 := beBytes 4 x.lba.toNat ++ x.hash.data.toList
def hashH (x : LeafH) : List UInt8 := sha ([0] ++ saidH x)
structure LeafOk (x : LeafH) : Prop where
  l0 : 0 ≤ x.lba
  l1 : x.lba ≤ 4095
  n : x.hash.size = 32
theorem sizeLeaf {x : LeafH} : (Tryz.prog.info? 70).map (·.size) = some x.cells.length := by kernel_rfl
theorem leaf_one (x : LeafH) : ∀ v ∈ x.cells, v.oneCell' = true := by intro v hv; simp [LeafH.cells] at hv; rcases hv with rfl | rfl <;> rfl
theorem zeroLeaf (w : World) : Sem.run Tryz.prog (zeroValue 70) w = .ok (.agg (LeafH.cells ⟨0, ⟨#[]⟩⟩).toArray) w := by kernel_rfl
theorem pplace_walk (n : Int) (w : World) (h0 : 0 ≤ n) (h1 : n ≤ 4095) :
    Calls Tryz.prog 247 #[.int .i64 n] w fun e w' => e = .returned (.bool true) ∧ w = w' := by
  go_enter Tryz.func247, Tryz.ntmps247
  go_wp2_with fail
  go_ret
  first | exact ⟨rfl, rfl⟩ | exact ⟨ret_b (by simp; omega), rfl⟩ | exact ⟨ret_b (by simp), rfl⟩
set_option maxHeartbeats 1000000 in
theorem psaid_walk (x : LeafH) (w : World) (hx : LeafOk x) :
    Calls Tryz.prog 316 #[.agg x.cells.toArray] w fun e w' => (∃ r, e = .returned (.string r) ∧ Txt r (saidH x)) ∧ Below w.heap.size w w' := by
  have HX := Lib.hid hx
  have hn : (x.hash.size : Int) = 32 := by have := hx.n; omega
  clear hx
  go_enter Tryz.func316, Tryz.ntmps316
  go_wp2_with (first
    | ((with_reducible refine wpList_box_new 70 (.tmp 0) x.cells (some 1) ?hgd ?ho ?hd ?hx ?_); (case hgd | ho | hd | hx => rfl); (intro b1 w1 l1 B1 e1 z1; have q0 := B1.cell (i := 0) rfl; have q1 := B1.cell (i := 1) rfl))
    | fail)
  have HB1 := Lib.hid B1
  have HBE1 := Lib.hid (e1.mono l1)
  clear B1 e1 z1 l1
  refine (pplace_walk x.lba _ HX.out.l0 HX.out.l1).mono ?_
  rintro e w' ⟨rfl, rfl⟩
  go_wp2_with fail
  obtain ⟨k, hk⟩ : ∃ k : Nat, x.lba = (k : Int) := ⟨x.lba.toNat, by have := HX.out.l0; omega⟩
  rw [hk]
  refine (oput k 4 _ (by decide) (by decide) (by have := HX.out.l1; omega) (fun _ => by have := HX.out.l1; simp; omega)).mono ?_
  rintro e w2 ⟨r, rfl, tr, hb2⟩
  have HTR := Lib.hid tr
  have hr : r.size = 4 := by rw [tr.size, beBytes_length]
  have HR := Lib.hid hr
  have HBE2 := Lib.hid (HBE1.out.trans (hb2.mono HBE1.out.size))
  have q1 := (HB1.out.below hb2 HB1.out.lt).cell (i := 1) rfl
  have hsz : (r.size : Int) + (x.hash.size : Int) ≤ 100 := by omega
  clear hb2 tr hr
  go_wp2_with fail
  go_ret
  refine ⟨⟨_, rfl, (HTR.out.append (Txt.self x.hash)).cast ?_⟩, HBE2.out⟩
  unfold saidH
  rw [show x.lba.toNat = k by omega]
set_option maxHeartbeats 1000000 in
theorem mleaf_walk (s : ByteArray) (w : World) (hs : s.size ≤ 1000000) :
    Calls Tryz.prog 380 #[.string s] w fun e w' => (∃ r, e = .returned (.string r) ∧ Txt r (sha ([0] ++ s.data.toList))) ∧ Below w.heap.size w w' := by
  go_enter Tryz.func380, Tryz.ntmps380
  go_wp2_with fail
  refine (sum_two ⟨#[0]⟩ s _ _ (by show 1 + s.size ≤ _; omega)).mono ?_
  rintro e w1 ⟨r, rfl, tr, hb⟩
  go_wp2_with fail
  go_ret
  exact ⟨⟨r, rfl, tr⟩, hb⟩
set_option maxHeartbeats 1000000 in
theorem phash_walk (x : LeafH) (w : World) (hx : LeafOk x) :
    Calls Tryz.prog 319 #[.agg x.cells.toArray] w fun e w' => (∃ r, e = .returned (.string r) ∧ Txt r (hashH x)) ∧ Below w.heap.size w w' := by
  have HX := Lib.hid hx
  clear hx
  go_enter Tryz.func319, Tryz.ntmps319
  go_wp2_with (first
    | ((with_reducible refine wpList_box_new 70 (.tmp 0) x.cells (some 1) ?hgd ?ho ?hd ?hx ?_); (case hgd | ho | hd | hx => rfl); (intro b1 w1 l1 B1 e1 z1))
    | ((with_reducible refine wpList_load_blk 70 (.tmp 1) b1 x.cells 70 _ B1 Tryz.underlying70 rfl sizeLeaf ?hgd ?ho ?hx ?_); (case hgd | ho | hx => rfl))
    | fail)
  have HBE1 := Lib.hid (e1.mono l1)
  clear B1 e1 z1 l1
  refine (psaid_walk x _ HX.out).mono ?_
  rintro e w2 ⟨⟨s, rfl, ts⟩, hb2⟩
  have HTS := Lib.hid ts
  have HBE2 := Lib.hid (HBE1.out.trans (hb2.mono HBE1.out.size))
  clear ts hb2
  go_wp2_with fail
  refine (mleaf_walk s _ (by rw [HTS.out.size]; unfold saidH; rw [List.length_append, beBytes_length, show x.hash.data.toList.length = x.hash.size from rfl]; have := HX.out.n; omega)).mono ?_
  rintro e w3 ⟨⟨r, rfl, tr⟩, hb3⟩
  have HTR := Lib.hid (show Txt r (hashH x) from tr.cast (by unfold hashH; rw [show s.data.toList = _ from HTS.out]))
  have HBE3 := Lib.hid (HBE2.out.trans (hb3.mono HBE2.out.size))
  clear tr hb3
  go_wp2_with fail
  go_ret
  exact ⟨⟨r, rfl, HTR.out⟩, HBE3.out⟩
theorem flatH_length (l : List LeafH) : (flatH l).length = l.length * 2 := by
  induction l with
  | nil => rfl
  | cons a r ih => show (a.cells ++ flatH r).length = _; rw [List.length_append, ih, List.length_cons]; show 2 + _ = _; omega
theorem flatH_at (l : List LeafH) : ∀ (j : Nat) (p : LeafH), l[j]? = some p → (flatH l)[j * 2]? = some (.int .i64 p.lba) ∧ (flatH l)[j * 2 + 1]? = some (.string p.hash) := by
  induction l with
  | nil => intro j p h; simp at h
  | cons a r ih =>
    intro j p h
    have ha : a.cells.length = 2 := rfl
    cases j with
    | zero => simp at h; subst h; exact ⟨rfl, rfl⟩
    | succ j =>
      have := ih j p (by simpa using h)
      show (a.cells ++ flatH r)[(j + 1) * 2]? = _ ∧ (a.cells ++ flatH r)[(j + 1) * 2 + 1]? = _
      rw [List.getElem?_append_right (by omega), List.getElem?_append_right (by omega), ha, show (j + 1) * 2 - 2 = j * 2 by omega, show (j + 1) * 2 + 1 - 2 = j * 2 + 1 by omega]
      exact this
theorem leaf_at {w : World} {g : Nat} {l : List LeafH} {z : List Value} {t : TypeId} (h : Blk w g (flatH l ++ z) t) {m : Nat} {x : LeafH} (hx : l[m]? = some x) : w.rangeAt g (m * 2) x.cells := by
  have hl := (List.getElem?_eq_some_iff.1 hx).1
  have hf := flatH_at l m x hx
  have h3 := flatH_length l
  intro j u hu
  match j, hu with
  | 0, hu => simp [LeafH.cells] at hu; subst hu; exact h.cell (by rw [List.getElem?_append_left (by omega)]; exact hf.1)
  | 1, hu => simp [LeafH.cells] at hu; subst hu; exact h.cell (by rw [List.getElem?_append_left (by omega)]; exact hf.2)
  | j + 2, hu => simp [LeafH.cells] at hu
structure LeavesOk (l : List LeafH) : Prop where
  each : ∀ (j : Nat) (x : LeafH), l[j]? = some x → LeafOk x
  rise : ∀ (i j : Nat) (x y : LeafH), l[i]? = some x → l[j]? = some y → i < j → x.lba < y.lba
theorem hashH_length (x : LeafH) : (hashH x).length = 32 := sha_length _
end Go.Proofs.YtppdboadjefieaaGreat

