/- A record is sealed (chapter 26): held, where there is no ring. A segment of one cell (chapters 16, 17): its data, count, leaves, root. A volume's blocks (chapter 26): a block of another type is none of them, and what is turned beside them leaves it. -/
import Derived.Test.YtppdboadjefieaaGreatQ25
import Derived.Test.YtppdboadjefieaaGreatQ26
import Derived.Test.YtppdboadjefieaaGreatQ14
import Derived.Test.YtppdboadjefieaaGreatQ15
set_option linter.unusedSimpArgs false
set_option linter.unusedVariables false
namespace Go.Proofs.YtppdboadjefieaaGreat
open Go Go.RowKit
set_option maxRecDepth 100000

theorem zeroSldV (w : World) : Sem.run Tryz.prog (zeroValue 98) w = .ok (.agg (Sld.cells ⟨Rec.zero, ⟨#[]⟩⟩).toArray) w := by kernel_rfl
theorem sizeSldV {x : Sld} : (Tryz.prog.info? 98).map (·.size) = some x.cells.length := by kernel_rfl
theorem oneSldV (x : Sld) : ∀ v ∈ x.cells, v.oneCell' = true := by intro v hv; simp [Sld.cells] at hv; rcases hv with rfl | rfl | rfl | rfl | rfl | rfl | rfl | rfl | rfl <;> rfl
theorem builtSldV (r : Rec) (t : ByteArray) : Tryz.prog.built 98 [(0, .agg r.cells.toArray), (1, .string t)] = some (Sld.cells ⟨r, t⟩).toArray := by obtain ⟨a, b, c, d, e, f, g, h⟩ := r; kernel_rfl
set_option maxHeartbeats 8000000 in
theorem held_walk (i : VolI) (v : VolD) (r : Rec) (w : World) (h : VolAt w i v) (hrv : i.rv = .pointer none) (hk : v.key.size = 32) (hok : saidCOk (lastB v.sealed) (v.sealed.length : Int) r) (hroot : r.root.size ≤ 1048576) (hname : r.name.size ≤ 1048576) (hf : Fits r.epoch) (hns : v.sealed.length ≤ 1048576) :
    Calls Tryz.prog 59 #[.pointer (some ⟨i.vb, 0, none⟩), r.v] w fun e w' => (∃ t bl, e = .returned (.tuple #[.agg (Sld.cells ⟨r, t⟩).toArray, .string bl]) ∧ Txt t (tagC v.key.data.toList (lastB v.sealed).data.toList (v.sealed.length : Int) r) ∧ Txt bl (holdL (recPut r ++ t.data.toList))) ∧ Below w.heap.size w w' := by
  have HK := Lib.hid (show v.key.size = 32 ∧ saidCOk (lastB v.sealed) (v.sealed.length : Int) r from ⟨hk, hok⟩)
  have HF := Lib.hid (show (r.root.size ≤ 1048576 ∧ r.name.size ≤ 1048576) ∧ Fits r.epoch ∧ Fits (v.sealed.length : Int) from ⟨⟨hroot, hname⟩, hf, by unfold Fits; omega⟩)
  have HRV := Lib.hid hrv
  have HNS := Lib.hid hns
  have HRO := Lib.hid hok.2.2.2
  have H0 := Lib.hid h
  obtain ⟨sp, sc, hsv⟩ := own_shape h.sealed
  have HSV := Lib.hid hsv
  clear hk hok hroot hname hf hns h hrv hsv
  go_enter Tryz.func59, Tryz.ntmps59
  go_upto_region 1 with (first
    | ((with_reducible refine wpList_box_new 62 (.tmp 1) r.cells (some 3) ?hgd ?ho ?hd ?hx ?_); (case hgd | ho | hd | hx => rfl); (intro b3 w1 l1 B1 e1 z1))
    | ((with_reducible refine wpList_alloc_new 98 _ zeroSldV (some 4) ?hgd ?ho ?hd ?_); (case hgd | ho | hd => rfl); (intro b4 w2 l2 B2 e2 z2))
    | fail)
  have HX1 := Lib.hid (B1.below e2 (by omega))
  have HB4 := Lib.hid B2
  have HL4 := Lib.hid (show w.heap.size ≤ b4 from by omega)
  have HBE1 := Lib.hid ((e1.mono l1).trans (e2.mono (by omega)))
  have H1 := Lib.hid (H0.out.below HBE1.out)
  clear B1 B2 e1 e2 l1 l2 z1 z2
  refine wp_region_held_drew (S := fun wx => wx.rangeAt b3 0 r.cells ∧ wx.cell? ⟨i.vb, 7, none⟩ = some (.pointer none) ∧ wx.cell? ⟨i.vb, 1, none⟩ = some (.string v.key) ∧ wx.cell? ⟨i.vb, 4, none⟩ = some (.slice sp v.sealed.length sc)) (by kernel_rfl) (⟨HX1.out.drew.range, (by rw [← HRV.out]; exact H1.out.vol.drew.cell (i := 7) rfl), H1.out.vol.drew.cell (i := 1) rfl, (by rw [← HSV.out]; exact H1.out.vol.drew.cell (i := 4) rfl)⟩) (fun hHeld => ?_)
  obtain ⟨wd, hwd⟩ : ∃ wd, wd = w2.drew := ⟨_, rfl⟩
  have hbd : Below w2.heap.size w2 wd := by rw [hwd]; exact (Below.refl _ _).drew
  have Hd := Lib.hid (H1.out.below hbd)
  have HXd := Lib.hid (HX1.out.below hbd HX1.out.lt)
  have HB4d := Lib.hid (HB4.out.below hbd HB4.out.lt)
  have HBEd := Lib.hid (HBE1.out.trans (hbd.mono HBE1.out.size))
  rw [← hwd]
  rw [← hwd] at hHeld
  clear hwd hbd
  refine wpAnyH_take (i := 0) (v := ?_) rfl (by kernel_rfl) (by kernel_rfl) (by kernel_rfl) (fun _ _ _ h => h) (Or.inl ⟨by rfl, ?_⟩) (by assumption) ?_
  rotate_left
  · intro w hSw; (try dsimp only at hSw); go_simp; first | done | with_reducible rfl
  (try simp only [Act.put, Array.getInternal_eq_getElem, List.getElem_toArray, List.getElem_cons_succ, List.getElem_cons_zero, List.setIfInBounds_toArray, List.set_cons_zero, List.set_cons_succ])
  refine wpAnyH_take (i := 1) (v := ?_) rfl (by kernel_rfl) (by kernel_rfl) (by kernel_rfl) (fun _ _ _ h => h) (Or.inl ⟨by rfl, ?_⟩) (by assumption) ?_
  rotate_left
  · intro w hSw; (try dsimp only at hSw); go_simp; first | done | with_reducible rfl
  (try simp only [Act.put, Array.getInternal_eq_getElem, List.getElem_toArray, List.getElem_cons_succ, List.getElem_cons_zero, List.setIfInBounds_toArray, List.set_cons_zero, List.set_cons_succ])
  refine wpAnyH_take (i := 2) (v := ?_) rfl (by kernel_rfl) (by kernel_rfl) (by kernel_rfl) (fun _ _ _ h => h) (Or.inl ⟨by rfl, ?_⟩) (by assumption) ?_
  rotate_left
  · intro w hSw; (try dsimp only at hSw); go_simp; first | done | with_reducible rfl
  (try simp only [Act.put, Array.getInternal_eq_getElem, List.getElem_toArray, List.getElem_cons_succ, List.getElem_cons_zero, List.setIfInBounds_toArray, List.set_cons_zero, List.set_cons_succ])
  refine wpAnyH_take (i := 3) (v := ?_) rfl (by kernel_rfl) (by kernel_rfl) (by kernel_rfl) (fun _ _ _ h => h) (Or.inl ⟨by rfl, ?_⟩) (by assumption) ?_
  rotate_left
  · intro w hSw; (try dsimp only at hSw); go_simp; first | done | with_reducible rfl
  (try simp only [Act.put, Array.getInternal_eq_getElem, List.getElem_toArray, List.getElem_cons_succ, List.getElem_cons_zero, List.setIfInBounds_toArray, List.set_cons_zero, List.set_cons_succ])
  refine wpAnyH_take (i := 4) (v := ?_) rfl (by kernel_rfl) (by kernel_rfl) (by kernel_rfl) (fun _ _ _ h => h) (Or.inl ⟨by rfl, ?_⟩) (by assumption) ?_
  rotate_left
  · intro w hSw; (try dsimp only at hSw); go_simp; first | done | with_reducible rfl
  (try simp only [Act.put, Array.getInternal_eq_getElem, List.getElem_toArray, List.getElem_cons_succ, List.getElem_cons_zero, List.setIfInBounds_toArray, List.set_cons_zero, List.set_cons_succ])
  refine wpAnyH_take (i := 5) (v := ?_) rfl (by kernel_rfl) (by kernel_rfl) (by kernel_rfl) (fun _ _ _ h => h) (Or.inl ⟨by rfl, ?_⟩) (by assumption) ?_
  rotate_left
  · intro w hSw; (try dsimp only at hSw); go_simp; first | done | with_reducible rfl
  (try simp only [Act.put, Array.getInternal_eq_getElem, List.getElem_toArray, List.getElem_cons_succ, List.getElem_cons_zero, List.setIfInBounds_toArray, List.set_cons_zero, List.set_cons_succ])
  refine wpAnyH_take (i := 6) (v := ?_) rfl (by kernel_rfl) (by kernel_rfl) (by kernel_rfl) (fun _ _ _ h => h) (Or.inl ⟨by rfl, ?_⟩) (by assumption) ?_
  rotate_left
  · intro w hSw; (try dsimp only at hSw); go_simp; first | done | with_reducible rfl
  (try simp only [Act.put, Array.getInternal_eq_getElem, List.getElem_toArray, List.getElem_cons_succ, List.getElem_cons_zero, List.setIfInBounds_toArray, List.set_cons_zero, List.set_cons_succ])
  refine wpAnyH_take (i := 7) (v := ?_) rfl (by kernel_rfl) (by kernel_rfl) (by kernel_rfl) (fun _ _ _ h => h) (Or.inl ⟨by rfl, ?_⟩) (by assumption) ?_
  rotate_left
  · intro w hSw; (try dsimp only at hSw); go_simp; first | done | with_reducible rfl
  (try simp only [Act.put, Array.getInternal_eq_getElem, List.getElem_toArray, List.getElem_cons_succ, List.getElem_cons_zero, List.setIfInBounds_toArray, List.set_cons_zero, List.set_cons_succ])
  refine wpAnyH_take (i := 8) (v := ?_) rfl (by kernel_rfl) (by kernel_rfl) (by kernel_rfl) (fun _ _ _ h => h) (Or.inl ⟨by rfl, ?_⟩) (by assumption) ?_
  rotate_left
  · intro w hSw; (try dsimp only at hSw); go_simp; first | done | with_reducible rfl
  (try simp only [Act.put, Array.getInternal_eq_getElem, List.getElem_toArray, List.getElem_cons_succ, List.getElem_cons_zero, List.setIfInBounds_toArray, List.set_cons_zero, List.set_cons_succ])
  refine wpAnyH_take (i := 9) (v := ?_) rfl (by kernel_rfl) (by kernel_rfl) (by kernel_rfl) (fun _ _ _ h => h) (Or.inl ⟨by rfl, ?_⟩) (by assumption) ?_
  rotate_left
  · intro w hSw; (try dsimp only at hSw); go_simp; first | done | with_reducible rfl
  (try simp only [Act.put, Array.getInternal_eq_getElem, List.getElem_toArray, List.getElem_cons_succ, List.getElem_cons_zero, List.setIfInBounds_toArray, List.set_cons_zero, List.set_cons_succ])
  refine wpAnyH_take (i := 10) (v := ?_) rfl (by kernel_rfl) (by kernel_rfl) (by kernel_rfl) (fun _ _ _ h => h) (Or.inl ⟨by rfl, ?_⟩) (by assumption) ?_
  rotate_left
  · intro w hSw; (try dsimp only at hSw); go_simp; first | done | with_reducible rfl
  (try simp only [Act.put, Array.getInternal_eq_getElem, List.getElem_toArray, List.getElem_cons_succ, List.getElem_cons_zero, List.setIfInBounds_toArray, List.set_cons_zero, List.set_cons_succ])
  refine wpAnyH_take (i := 11) (v := ?_) rfl (by kernel_rfl) (by kernel_rfl) (by kernel_rfl) (fun _ _ _ h => h) (Or.inl ⟨by rfl, ?_⟩) (by assumption) ?_
  rotate_left
  · intro w hSw; (try dsimp only at hSw); go_simp; first | done | with_reducible rfl
  (try simp only [Act.put, Array.getInternal_eq_getElem, List.getElem_toArray, List.getElem_cons_succ, List.getElem_cons_zero, List.setIfInBounds_toArray, List.set_cons_zero, List.set_cons_succ])
  refine wpAnyH_take (i := 13) (v := ?_) rfl (by kernel_rfl) (by kernel_rfl) (by kernel_rfl) (fun _ _ _ h => h) (Or.inl ⟨by rfl, ?_⟩) (by assumption) ?_
  rotate_left
  · intro w hSw; (try dsimp only at hSw); go_simp; first | done | with_reducible rfl
  (try simp only [Act.put, Array.getInternal_eq_getElem, List.getElem_toArray, List.getElem_cons_succ, List.getElem_cons_zero, List.setIfInBounds_toArray, List.set_cons_zero, List.set_cons_succ])
  refine wpAnyH_take (i := 14) (v := ?_) rfl (by kernel_rfl) (by kernel_rfl) (by kernel_rfl) (fun _ _ _ h => h) (Or.inl ⟨by rfl, ?_⟩) (by assumption) ?_
  rotate_left
  · intro w hSw; (try dsimp only at hSw); go_simp; first | done | with_reducible rfl
  (try simp only [Act.put, Array.getInternal_eq_getElem, List.getElem_toArray, List.getElem_cons_succ, List.getElem_cons_zero, List.setIfInBounds_toArray, List.set_cons_zero, List.set_cons_succ])
  refine wpAnyH_take (i := 15) (v := ?_) rfl (by kernel_rfl) (by kernel_rfl) (by kernel_rfl) (fun _ _ _ h => h) (Or.inl ⟨by rfl, ?_⟩) (by assumption) ?_
  rotate_left
  · intro w hSw; (try dsimp only at hSw); go_simp; first | done | with_reducible rfl
  (try simp only [Act.put, Array.getInternal_eq_getElem, List.getElem_toArray, List.getElem_cons_succ, List.getElem_cons_zero, List.setIfInBounds_toArray, List.set_cons_zero, List.set_cons_succ])
  refine wpAnyH_take (i := 16) (v := ?_) rfl (by kernel_rfl) (by kernel_rfl) (by kernel_rfl) (fun _ _ _ h => h) (Or.inl ⟨by rfl, ?_⟩) (by assumption) ?_
  rotate_left
  · intro w hSw; (try dsimp only at hSw); go_simp; first | done | with_reducible rfl
  (try simp only [Act.put, Array.getInternal_eq_getElem, List.getElem_toArray, List.getElem_cons_succ, List.getElem_cons_zero, List.setIfInBounds_toArray, List.set_cons_zero, List.set_cons_succ])
  refine wpAnyH_take (i := 17) (v := ?_) rfl (by kernel_rfl) (by kernel_rfl) (by kernel_rfl) (fun _ _ _ h => h) (Or.inl ⟨by rfl, ?_⟩) (by assumption) ?_
  rotate_left
  · intro w hSw; (try dsimp only at hSw); go_simp; first | done | with_reducible rfl
  (try simp only [Act.put, Array.getInternal_eq_getElem, List.getElem_toArray, List.getElem_cons_succ, List.getElem_cons_zero, List.setIfInBounds_toArray, List.set_cons_zero, List.set_cons_succ])
  refine wpAnyH_take (i := 18) (v := .agg (r.cells).toArray) rfl (by kernel_rfl) (by kernel_rfl) (by kernel_rfl) (fun _ _ _ h => h) (yieldsIf_load_mid (by rfl) 62 (.tmp 3) rfl b3 0 rfl (r.cells) _ (fun w h => h.1) Tryz.underlying62 rfl rsizeRec) (by assumption) ?_
  (try simp only [Act.put, Array.getInternal_eq_getElem, List.getElem_toArray, List.getElem_cons_succ, List.getElem_cons_zero, List.setIfInBounds_toArray, List.set_cons_zero, List.set_cons_succ])
  refine wpAnyH_ready (rs := [12]) (by kernel_rfl) (by simp) ?_
  refine AllReadyH.cons rfl (fun K hK => ?_) AllReadyH.nil
  go_simp
  refine (clast_walk (.slice sp v.sealed.length sc) v.sealed _ (SldRow.own (by rw [← HSV.out]; exact Hd.out.sealed) rfl) HNS.out).mono ?_
  rintro e we ⟨rfl, hbe⟩
  have He := Lib.hid (Hd.out.below hbe)
  have HXe := Lib.hid (HXd.out.below hbe HXd.out.lt)
  have HB4e := Lib.hid (HB4d.out.below hbe HB4d.out.lt)
  have HBEe := Lib.hid (HBEd.out.trans (hbe.mono HBEd.out.size))
  clear hbe
  (try go_wp2_with fail)
  refine hK.out _ _ (⟨HXe.out.range, (by rw [← HRV.out]; exact He.out.vol.cell (i := 7) rfl), He.out.vol.cell (i := 1) rfl, (by rw [← HSV.out]; exact He.out.vol.cell (i := 4) rfl)⟩) (fun hHeld2 => ?_)
  clear hK K hHeld
  have hHeld := hHeld2
  clear hHeld2
  (try simp only [Act.put, Array.getInternal_eq_getElem, List.getElem_toArray, List.getElem_cons_succ, List.getElem_cons_zero, List.setIfInBounds_toArray, List.set_cons_zero, List.set_cons_succ])
  refine wpAnyH_ready (rs := [19]) (by kernel_rfl) (by simp) ?_
  refine AllReadyH.cons rfl (fun K hK => ?_) AllReadyH.nil
  go_simp
  refine (ringTag_walk v.key (lastB v.sealed) (v.sealed.length : Int) r _ HK.out.1 HK.out.2 HF.out.1.1 HF.out.1.2 HF.out.2.1 HF.out.2.2).mono ?_
  rintro e wf ⟨⟨t, rfl, tt⟩, hbf⟩
  have HTT := Lib.hid tt
  have Hf := Lib.hid (He.out.below hbf)
  have HXf := Lib.hid (HXe.out.below hbf HXe.out.lt)
  have HB4f := Lib.hid (HB4e.out.below hbf HB4e.out.lt)
  have HBEf := Lib.hid (HBEe.out.trans (hbf.mono HBEe.out.size))
  clear hbf tt
  (try go_wp2_with fail)
  refine hK.out _ _ (⟨HXf.out.range, (by rw [← HRV.out]; exact Hf.out.vol.cell (i := 7) rfl), Hf.out.vol.cell (i := 1) rfl, (by rw [← HSV.out]; exact Hf.out.vol.cell (i := 4) rfl)⟩) (fun hHeld2 => ?_)
  clear hK K hHeld
  have hHeld := hHeld2
  clear hHeld2
  (try simp only [Act.put, Array.getInternal_eq_getElem, List.getElem_toArray, List.getElem_cons_succ, List.getElem_cons_zero, List.setIfInBounds_toArray, List.set_cons_zero, List.set_cons_succ])
  refine wpAnyH_take (i := 20) (v := ?_) rfl (by kernel_rfl) (by kernel_rfl) (by kernel_rfl) (fun _ _ _ h => h) (Or.inl ⟨by rfl, ?_⟩) (by assumption) ?_
  rotate_left
  · intro w hSw; (try dsimp only at hSw); go_simp; first | done | with_reducible rfl
  (try simp only [Act.put, Array.getInternal_eq_getElem, List.getElem_toArray, List.getElem_cons_succ, List.getElem_cons_zero, List.setIfInBounds_toArray, List.set_cons_zero, List.set_cons_succ])
  refine wpAnyH_done (by kernel_rfl) ?_ _
  clear hHeld
  go_wp2_with (first
    | ((with_reducible refine wpList_load_blk 62 (.tmp 3) b3 r.cells 62 _ HXf.out Tryz.underlying62 rfl rsizeRec ?hgd ?ho ?hx ?_); (case hgd | ho | hx => rfl))
    | fail)
  refine (recput_walk r _ HF.out.1.1 HF.out.1.2 HF.out.2.1).mono ?_
  rintro e w5 ⟨he, hb5⟩
  obtain ⟨q, rfl, tq⟩ : ∃ q, e = .returned (.tuple #[.string q, .int .i64 0]) ∧ Txt q (recPut r) := by
    rcases he with ⟨_, h⟩ | ⟨h, _⟩
    · exact h
    · rw [HRO.out] at h; cases h
  have HTQ := Lib.hid tq
  have HX5 := Lib.hid (HXf.out.below hb5 HXf.out.lt)
  have HB5 := Lib.hid (HB4f.out.below hb5 HB4f.out.lt)
  have HBE5 := Lib.hid (HBEf.out.trans (hb5.mono HBEf.out.size))
  have hts : t.size = 32 := by rw [HTT.out.size, tagC_length]
  have hqs : q.size ≤ 85 := by rw [tq.size]; exact recPut_length HRO.out
  have hcat : ¬ 9223372036854775807 < q.size + t.size := by omega
  have HCS := Lib.hid (show 1 ≤ (q ++ t).size ∧ (q ++ t).size ≤ 4000 from by rw [ByteArray.size_append]; omega)
  have HQT := Lib.hid (show (q ++ t).data.toList = recPut r ++ t.data.toList from by rw [ByteArray.data_append, Array.toList_append, show q.data.toList = _ from tq])
  clear he hb5 tq hts hqs
  go_wp2_with fail
  refine (hold_walk (q ++ t) _ HCS.out.1 HCS.out.2).mono ?_
  rintro e w6 ⟨⟨z, rfl, tz⟩, hb6⟩
  have HTZ := Lib.hid tz
  have HX6 := Lib.hid (HX5.out.below hb6 HX5.out.lt)
  have HB6 := Lib.hid (HB5.out.below hb6 HB5.out.lt)
  have HBE6 := Lib.hid (HBE5.out.trans (hb6.mono HBE5.out.size))
  clear hb6 tz
  go_wp2_with (first
    | ((with_reducible refine wpList_load_blk 62 (.tmp 3) b3 r.cells 62 _ HX6.out Tryz.underlying62 rfl rsizeRec ?hgd ?ho ?hx ?_); (case hgd | ho | hx => rfl))
    | ((with_reducible refine wpList_build_eq 98 ?parts45 (Sld.cells ⟨r, t⟩) ?hg ?ho ?hf ?_); (case hg | ho => rfl); (case hf => (refine Eq.trans ?_ (builtSldV r t); kernel_rfl)))
    | ((with_reducible refine wpList_store_new 98 (.tmp 4) (.tmp 45) b4 (Sld.cells ⟨Rec.zero, ⟨#[]⟩⟩) (Sld.cells ⟨r, t⟩) 98 HB6.out rfl sizeSldV (oneSldV _) ?hgd ?ho ?hx ?hy ?_); (case hgd | ho | hx | hy => rfl); (intro w9 B9 o9))
    | fail)
  (try simp only [Exit.inBlock, Exit.then]); refine bodyPost_ret (results_cell1t rfl _ _ B9.range rfl Tryz.underlying98 rfl sizeSldV) rfl ⟨⟨t, z, rfl, HTT.out, HTZ.out.cast (by rw [HQT.out])⟩, o9.below HBE6.out HL4.out⟩
end Go.Proofs.YtppdboadjefieaaGreat

namespace Go.Proofs.YtppdboadjefieaaGreat
open Go Go.RowKit Go.Maps Go.WideMaps
set_option maxRecDepth 100000

def segF (ep : Int) (c : CellD) : Int → Option (List UInt8) := fun j => if j = c.lba then some (dataH ep c.slot c.cipher.data.toList) else none
theorem segD_is (ep : Int) (c : CellD) : SegIs (segD ep c 1) (segF ep c) := SegIs.none.put _ _
theorem segF_hash (ep : Int) (c : CellD) : Hashes (segF ep c) := Hashes.none.put _ _ (dataH_length _ _ _)
def leaf1 (ep : Int) (c : CellD) : LeafH := ⟨c.lba, ⟨(dataH ep c.slot c.cipher.data.toList).toArray⟩⟩
theorem segF_to (ep : Int) (c : CellD) (b : Nat) (hb : c.lba = (b : Int)) : ∀ k, leavesTo (segF ep c) k = if b < k then [leaf1 ep c] else []
  | 0 => by simp [leavesTo]
  | k + 1 => by
    have ih := segF_to ep c b hb k
    by_cases hk : k = b
    · subst hk
      have hf : segF ep c (k : Int) = some (dataH ep c.slot c.cipher.data.toList) := by unfold segF; rw [if_pos hb.symm]
      rw [leavesTo_yes hf, ih, if_neg (by omega), if_pos (by omega)]
      unfold leaf1
      rw [hb]
      rfl
    · have hf : segF ep c (k : Int) = none := by unfold segF; rw [if_neg (by omega)]
      rw [leavesTo_no hf, ih]
      by_cases hlt : b < k
      · rw [if_pos hlt, if_pos (by omega)]
      · rw [if_neg hlt, if_neg (by omega)]
theorem segF_leaves (ep : Int) (c : CellD) (h0 : 0 ≤ c.lba) (h1 : c.lba < 4096) : leavesTo (segF ep c) 4096 = [leaf1 ep c] := by
  rw [segF_to ep c c.lba.toNat (by omega), if_pos (by omega)]
theorem segCount1_walk (ps B : Nat) (ep : Int) (c : CellD) (w : World) (h : SegAt w ps B 1 ep (segD ep c 1)) :
    Calls Tryz.prog 61 #[.pointer (some ⟨ps, 0, none⟩)] w fun e w' => e = .returned (.int .i64 1) ∧ w = w' := segCount_walk ps B 1 ep _ w h
def root1 (ep : Int) (c : CellD) : List UInt8 := hashH (leaf1 ep c)
theorem root1_length (ep : Int) (c : CellD) : (root1 ep c).length = 32 := hashH_length _
theorem segRoot1_walk (ps B : Nat) (ep : Int) (c : CellD) (w : World) (h : SegAt w ps B 1 ep (segD ep c 1)) (h0 : 0 ≤ c.lba) (h1 : c.lba < 4096) :
    Calls Tryz.prog 62 #[.pointer (some ⟨ps, 0, none⟩)] w fun e w' => (∃ s, e = .returned (.string s) ∧ Txt s (root1 ep c)) ∧ Below w.heap.size w w' := by
  have hr := segRoot_walk ps B 1 ep (segD ep c 1) (segF ep c) w h (segD_is ep c) (segF_hash ep c) (by rw [segF_leaves ep c h0 h1]; exact Nat.le_refl _)
  rw [segF_leaves ep c h0 h1] at hr
  exact hr
end Go.Proofs.YtppdboadjefieaaGreat

namespace Go.Proofs.YtppdboadjefieaaGreat
open Go Go.RowKit
set_option maxRecDepth 100000

theorem map_noty {w : World} {k : TypeId} {R : Value → Option (DataW Unit × List MemPlace)} {b n : Nat} {D : DataW Unit} {t : TypeId} (h : w.ownsMap Tryz.prog k R b n D) (ht : Ty w b t) : False := by
  obtain ⟨_, _, h2⟩ := ht
  obtain ⟨es, clock, h1, _⟩ := h
  rw [h1] at h2
  cases h2
theorem VolAt.notype {w : World} {i : VolI} {v : VolD} {b : Nat} {t : TypeId} (h : VolAt w i v) (hb : Ty w b t) (ht : t ∉ [50, 137, 215, 297, 213, 224, 124, 9, 129, 154, 98]) : b ∉ i.foot v.d := by
  intro hx
  simp only [List.mem_cons, List.not_mem_nil, or_false, not_or] at ht
  obtain ⟨t1, t2, t3, t4, t5, t6, t7, t8, t9, t10, t11⟩ := ht
  simp only [VolI.foot, List.mem_append, List.mem_cons, List.not_mem_nil, or_false, Option.mem_toList, Option.mem_def] at hx
  rcases hx with (rfl | rfl | rfl | rfl | rfl | rfl | rfl | rfl | rfl | rfl) | hx | hx | hx
  · exact t1 (hb.eq h.vol.ty)
  · exact t2 (hb.eq h.jour.ty)
  · exact t3 (hb.eq h.space.ty)
  · exact t4 (hb.eq h.index.ty)
  · exact t5 (hb.eq h.book.ty)
  · exact t6 (hb.eq h.bclock.ty)
  · exact t6 (hb.eq h.clock.ty)
  · exact map_noty h.maps.u hb
  · exact map_noty h.maps.l hb
  · exact map_noty h.maps.g hb
  · obtain ⟨t', hm, ht'⟩ := h.disk.tyIn b hx
    have he := hb.eq ht'
    subst he
    simp only [List.mem_cons, List.not_mem_nil, or_false] at hm
    rcases hm with hm | hm | hm
    · exact t7 hm
    · exact t8 hm
    · exact t9 hm
  · exact t10 (hb.eq (own_ty h.vers hx))
  · exact t11 (hb.eq (own_ty h.sealed hx))
theorem VolAt.away {w w' : World} {i : VolI} {v : VolD} {S : List Nat} (h : VolAt w i v) (t : Turned S w w') (hS : ∀ x, x ∈ i.foot v.d → x ∉ S) : VolAt w' i v := by
  have hm : ∀ x, x ∈ [i.vb, i.jb, i.sb, i.xb, i.bb, i.c2, i.cb, i.m1, i.m2, i.m3] → x ∉ S := fun x hx => hS x (by unfold VolI.foot; exact List.mem_append_left _ hx)
  exact ⟨t.blk h.vol (hm _ (by simp)), t.blk h.jour (hm _ (by simp)), t.blk h.space (hm _ (by simp)), h.disk.turned t (fun x hx => hS x (by unfold VolI.foot; exact List.mem_append_right _ (List.mem_append_left _ hx))), t.blk h.index (hm _ (by simp)),
    own_turned h.vers t (fun k hk => hS k (by simp only [VolI.foot, List.mem_append, Option.mem_toList, Option.mem_def]; exact .inr (.inr (.inl hk)))), own_turned h.sealed t (fun k hk => hS k (by simp only [VolI.foot, List.mem_append, Option.mem_toList, Option.mem_def]; exact .inr (.inr (.inr hk)))),
    t.blk h.book (hm _ (by simp)), t.blk h.bclock (hm _ (by simp)), t.blk h.clock (hm _ (by simp)), h.maps.turned t (by rintro x (rfl | rfl | rfl) <;> exact hm _ (by simp)), h.two, h.rp⟩
theorem VolTo.away {w w1 w2 : World} {i i' : VolI} {v v' : VolD} {b : Nat} (h : VolTo w w1 i v i' v') (t : Turned [b] w1 w2) (hb : b ∉ i'.foot v'.d) (hw : w.heap.size ≤ b) : VolTo w w2 i v i' v' :=
  ⟨h.at'.away t (fun x hx hm => hb (by simp at hm; subst hm; exact hx)), h.turned.on t (fun x hx => by simp at hx; subst hx; exact .inr hw), h.foot⟩
end Go.Proofs.YtppdboadjefieaaGreat

