/- A journal within a volume (chapter 25): Close. What a disk shows behind a closing (chapters 25, 26). No program in sight. Looks of a volume; Rerig and Rig over a new disk (chapter 26). AES as the program reckons it (chapter 5), in plain words. No program in sight. -/
import Derived.Test.YtppdboadjefieaaGreatQ16
import Derived.Test.YtppdboadjefieaaGreatQ4
import Derived.Test.YtppdboadjefieaaGreatQ14
import Derived.Test.YtppdboadjefieaaGreatQ7
import Derived.OrdersHeld
import Derived.Lib.SliceRun
import Derived.Deep.DeepAppendWide
import Derived.Test.YtppdboadjefieaaGreatQ11
import Derived.Test.YtppdboadjefieaaGreatQ2
set_option linter.unusedSimpArgs false
set_option linter.unusedVariables false
namespace Go.Proofs.YtppdboadjefieaaGreat
open Go Go.RowKit
set_option maxRecDepth 100000

def closeSup (v : VolD) (clock : Int) : SupD := ⟨v.last.gen + 1, v.used + 1, v.last.epoch + 1, clock, v.last.geo⟩
def closeDisk (v : VolD) (block kb q nb : ByteArray) : DiskD :=
  ({ (({ (({ v.d with cs := v.d.cs ++ [(4 + v.used, block)] ++ [(2 + (v.last.epoch + 1) % 2, kb)] } : DiskD).flushed) with cs := [((v.last.gen + 1) % 2, q)] } : DiskD).flushed) with cs := [(2 + v.last.epoch % 2, nb)] } : DiskD).flushed
set_option maxHeartbeats 16000000 in
theorem jclose_walk (i : VolI) (v : VolD) (block next : ByteArray) (clock : Int) (w : World) (h : VolAt w i v) (ok : VolOk v) (hb : block.size = 4096) (hn : next.size = 32) (hu : v.used < v.last.geo.blocks - 4) (hc0 : v.last.clock ≤ clock) (hc1 : clock ≤ 1099511627776) (hg : v.last.gen ≠ 1152921504606846976) (he : v.last.epoch < 4294967295) :
    Calls Tryz.prog 64 #[.pointer (some ⟨i.jb, 0, none⟩), .string block, .string next, .int .i64 clock] w fun e w' => e = .returned (.tuple #[.int .i64 v.used, .int .i64 0]) ∧ ∃ kb q nb, Txt kb (keyL (v.last.epoch + 1) next.data.toList) ∧ Txt q (supL (closeSup v clock)) ∧ nb = (⟨(List.replicate 4096 0).toArray⟩ : ByteArray) ∧ VolTo w w' i v i { v with used := v.used + 1, last := closeSup v clock, d := closeDisk v block kb q nb } := by
  have hbi : (block.size : Int) = 4096 := by omega
  have hni : (next.size : Int) = 32 := by omega
  obtain ⟨u, hu0⟩ : ∃ u, v.used = u := ⟨_, rfl⟩
  obtain ⟨ep, hep⟩ : ∃ ep, v.last.epoch = ep := ⟨_, rfl⟩
  have he0 : 0 ≤ ep := by have := ok.sup.e0; have := ok.sup.geo.f0; omega
  obtain ⟨m, hm⟩ : ∃ m : Nat, ep + 1 = (m : Int) := ⟨(ep + 1).toNat, by omega⟩
  have HSUP := Lib.hid (show SupOk (closeSup v clock) from by
    have g0 := ok.sup.g0
    have g1 := ok.sup.g1
    have c0 := ok.sup.c0
    have e0 := ok.sup.e0
    have u0 := ok.u0
    exact ⟨ok.sup.geo, by show 1 ≤ v.last.gen + 1; omega, by show v.last.gen + 1 ≤ 1152921504606846976; omega, by show 0 ≤ v.used + 1; omega, by show v.used + 1 ≤ v.last.geo.blocks - 4; omega, by show v.last.geo.first ≤ v.last.epoch + 1; omega, by show v.last.epoch + 1 < 4294967296; omega, by show 0 ≤ clock; omega, hc1⟩)
  have HNX := Lib.hid (fun (wx : World) => superNext_walk v.last wx ok.sup hg)
  have HJN := Lib.hid (fun (wx : World) (v' : VolD) (hv : VolAt wx i v') (ho : VolOk v') (hl : v'.last = v.last) => jnext_walk i v' clock wx hv ho (by rw [hl]; exact hg))
  have HU := Lib.hid hu0
  have HEPV := Lib.hid hep
  have HM := Lib.hid hm
  have HUB := Lib.hid (show 0 ≤ u ∧ u < v.last.geo.blocks - 4 from ⟨by rw [← hu0]; exact ok.u0, by rw [← hu0]; exact hu⟩)
  have HEP := Lib.hid (show 0 ≤ ep ∧ ep < 4294967295 from ⟨he0, by rw [← hep]; exact he⟩)
  have hepi : ¬ (4294967295 : Int) ≤ ep := by omega
  have HOK := Lib.hid ok
  have HB := Lib.hid (And.intro hb hn)
  have HTM := Lib.hid (And.intro hc0 hc1)
  have H0 := Lib.hid h
  rw [hu0, hep]
  clear hu hu0 ok hb hn hc0 hc1 hg he hep hm h he0
  have h := H0.out
  go_enter Tryz.func64, Tryz.ntmps64
  go_wp2_with fail
  refine (jready_walk i v _ h).mono ?_
  rintro e w' ⟨rfl, rfl⟩
  go_wp2_with fail
  refine (jtime_walk i v clock _ h HTM.out.1 HTM.out.2).mono ?_
  rintro e w' ⟨rfl, rfl⟩
  have c4 : w.cell? ⟨i.jb, 4, none⟩ = some (.int .i64 ep) := by rw [← HEPV.out]; exact h.jour.cell (i := 4) rfl
  go_upto_region 7 with fail
  clear c4
  have HR := Lib.hid (jour_sup h.jour)
  go_wp2_with (first
    | ((with_reducible refine wpList_load_met 135 (.tmp 50) i.jb 2 v.last.cells _ (some 51) HR.out Tryz.underlying135 rfl sizeSup ?hg ?ho ?hds ?hx ?_); (case ho | hg | hds | hx => rfl))
    | fail)
  refine (HNX.out _).mono ?_
  rintro e wa ⟨rfl, hba⟩
  have HBa := Lib.hid hba
  have Ha := Lib.hid (h.below hba)
  clear hba h
  go_upto_region 8 with (first
    | ((with_reducible refine wpList_alloc_new 135 _ zeroSup (some 12) ?hgd ?ho ?hd ?_); (case hgd | ho | hd => rfl); (intro b12 w3 l12 B12 e12 z12))
    | ((with_reducible refine wpList_store_new 135 (.tmp 12) (.tmp 53) b12 SupD.zero.cells (({ v.last with gen := v.last.gen + 1 } : SupD).cells) 135 B12 rfl sizeSup (sup_one _) ?hgd ?ho ?hx ?hy ?_); (case hgd | ho | hx | hy => rfl); (intro w8 B8 o8))
    | fail)
  have HBE8 := Lib.hid (o8.below (HBa.out.trans (e12.mono (Nat.le_trans HBa.out.size l12))) (Nat.le_trans HBa.out.size l12))
  have H8 := Lib.hid (H0.out.below HBE8.out)
  clear B12 B8 e12 o8 z12 l12
  have c0 := H8.out.jour.cell (i := 0) rfl
  go_wp2_with fail
  refine (spaceClose_walk i.sb v.last.geo u _ (by rw [← HU.out]; exact H8.out.space) HOK.out.sup.geo HUB.out.1 HUB.out.2).mono ?_
  rintro e wb ⟨⟨rfl, hs1⟩, ht1⟩
  have HTb := Lib.hid (VolTo.ahead HBE8.out (H8.out.take ht1 hs1))
  clear ht1 hs1 c0
  have hm := HM.out
  have hwm : IntKind.i64.wrap (m : Int) = (m : Int) := IntWalk.i64_in _ (by have := HEP.out; omega)
  go_wp2_with fail
  refine (slotsPut_walk m next _ (by have := HEP.out.2; omega) HB.out.2).mono ?_
  rintro e wc ⟨kb, rfl, tk, hbc⟩
  have HTK := Lib.hid tk
  have HTc := Lib.hid (HTb.out.below hbc)
  clear tk hbc
  go_upto_region 14 with fail
  refine wp_region_held_drew (S := fun wx => wx.cell? ⟨i.jb, 1, none⟩ = some (.pointer (some ⟨i.db, 0, none⟩))) (by kernel_rfl) (HTc.out.at'.jour.drew.cell (i := 1) rfl) (fun hHeld => ?_)
  obtain ⟨wd, hwd⟩ : ∃ wd, wd = wc.drew := ⟨_, rfl⟩
  have HTwd := Lib.hid (show VolTo w wd i v i { v with used := u + 1 } from by rw [hwd]; exact HTc.out.below (Below.refl _ _).drew)
  rw [← hwd]
  rw [← hwd] at hHeld
  clear hwd
  refine wpAnyH_take (i := 0) (v := ?_) rfl (by kernel_rfl) (by kernel_rfl) (by kernel_rfl) (fun _ _ _ h => h) (Or.inl ⟨by rfl, ?_⟩) (by assumption) ?_
  rotate_left
  · intro w hSw; (try dsimp only at hSw); go_simp; first | done | with_reducible rfl
  (try simp only [Act.put, Array.getInternal_eq_getElem, List.getElem_toArray, List.getElem_cons_succ, List.getElem_cons_zero, List.setIfInBounds_toArray, List.set_cons_zero, List.set_cons_succ])
  refine wpAnyH_take (i := 1) (v := ?_) rfl (by kernel_rfl) (by kernel_rfl) (by kernel_rfl) (fun _ _ _ h => h) (Or.inl ⟨by rfl, ?_⟩) (by assumption) ?_
  rotate_left
  · intro w hSw; (try dsimp only at hSw); go_simp; first | done | with_reducible rfl
  (try simp only [Act.put, Array.getInternal_eq_getElem, List.getElem_toArray, List.getElem_cons_succ, List.getElem_cons_zero, List.setIfInBounds_toArray, List.set_cons_zero, List.set_cons_succ])
  refine wpAnyH_take (i := 2) (v := ?_) rfl (by kernel_rfl) (by kernel_rfl) (by kernel_rfl) (fun _ _ _ h => h) (Or.inl ⟨by rfl, ?_⟩) (by assumption) ?_
  rotate_left
  · intro w hSw; (try dsimp only at hSw); go_simp; first | done | with_reducible rfl
  (try simp only [Act.put, Array.getInternal_eq_getElem, List.getElem_toArray, List.getElem_cons_succ, List.getElem_cons_zero, List.setIfInBounds_toArray, List.set_cons_zero, List.set_cons_succ])
  refine wpAnyH_take (i := 3) (v := ?_) rfl (by kernel_rfl) (by kernel_rfl) (by kernel_rfl) (fun _ _ _ h => h) (Or.inl ⟨by rfl, ?_⟩) (by assumption) ?_
  rotate_left
  · intro w hSw; (try dsimp only at hSw); go_simp; first | done | with_reducible rfl
  (try simp only [Act.put, Array.getInternal_eq_getElem, List.getElem_toArray, List.getElem_cons_succ, List.getElem_cons_zero, List.setIfInBounds_toArray, List.set_cons_zero, List.set_cons_succ])
  refine wpAnyH_take (i := 5) (v := ?_) rfl (by kernel_rfl) (by kernel_rfl) (by kernel_rfl) (fun _ _ _ h => h) (Or.inl ⟨by rfl, ?_⟩) (by assumption) ?_
  rotate_left
  · intro w hSw; (try dsimp only at hSw); go_simp; first | done | with_reducible rfl
  (try simp only [Act.put, Array.getInternal_eq_getElem, List.getElem_toArray, List.getElem_cons_succ, List.getElem_cons_zero, List.setIfInBounds_toArray, List.set_cons_zero, List.set_cons_succ])
  refine wpAnyH_take (i := 7) (v := ?_) rfl (by kernel_rfl) (by kernel_rfl) (by kernel_rfl) (fun _ _ _ h => h) (Or.inl ⟨by rfl, ?_⟩) (by assumption) ?_
  rotate_left
  · intro w hSw; (try dsimp only at hSw); go_simp; first | done | with_reducible rfl
  (try simp only [Act.put, Array.getInternal_eq_getElem, List.getElem_toArray, List.getElem_cons_succ, List.getElem_cons_zero, List.setIfInBounds_toArray, List.set_cons_zero, List.set_cons_succ])
  refine wpAnyH_take (i := 8) (v := ?_) rfl (by kernel_rfl) (by kernel_rfl) (by kernel_rfl) (fun _ _ _ h => h) (Or.inl ⟨by rfl, ?_⟩) (by assumption) ?_
  rotate_left
  · intro w hSw; (try dsimp only at hSw); go_simp; first | done | with_reducible rfl
  (try simp only [Act.put, Array.getInternal_eq_getElem, List.getElem_toArray, List.getElem_cons_succ, List.getElem_cons_zero, List.setIfInBounds_toArray, List.set_cons_zero, List.set_cons_succ])
  refine wpAnyH_take (i := 9) (v := ?_) rfl (by kernel_rfl) (by kernel_rfl) (by kernel_rfl) (fun _ _ _ h => h) (Or.inl ⟨by rfl, ?_⟩) (by assumption) ?_
  rotate_left
  · intro w hSw; (try dsimp only at hSw); go_simp; first | done | with_reducible rfl
  (try simp only [Act.put, Array.getInternal_eq_getElem, List.getElem_toArray, List.getElem_cons_succ, List.getElem_cons_zero, List.setIfInBounds_toArray, List.set_cons_zero, List.set_cons_succ])
  refine wpAnyH_take (i := 11) (v := ?_) rfl (by kernel_rfl) (by kernel_rfl) (by kernel_rfl) (fun _ _ _ h => h) (Or.inl ⟨by rfl, ?_⟩) (by assumption) ?_
  rotate_left
  · intro w hSw; (try dsimp only at hSw); go_simp; first | done | with_reducible rfl
  (try simp only [Act.put, Array.getInternal_eq_getElem, List.getElem_toArray, List.getElem_cons_succ, List.getElem_cons_zero, List.setIfInBounds_toArray, List.set_cons_zero, List.set_cons_succ])
  refine wpAnyH_take (i := 13) (v := ?_) rfl (by kernel_rfl) (by kernel_rfl) (by kernel_rfl) (fun _ _ _ h => h) (Or.inl ⟨by rfl, ?_⟩) (by assumption) ?_
  rotate_left
  · intro w hSw; (try dsimp only at hSw); go_simp; first | done | with_reducible rfl
  (try simp only [Act.put, Array.getInternal_eq_getElem, List.getElem_toArray, List.getElem_cons_succ, List.getElem_cons_zero, List.setIfInBounds_toArray, List.set_cons_zero, List.set_cons_succ])
  refine wpAnyH_take (i := 14) (v := ?_) rfl (by kernel_rfl) (by kernel_rfl) (by kernel_rfl) (fun _ _ _ h => h) (Or.inl ⟨by rfl, ?_⟩) (by assumption) ?_
  rotate_left
  · intro w hSw; (try dsimp only at hSw); go_simp; first | done | with_reducible rfl
  (try simp only [Act.put, Array.getInternal_eq_getElem, List.getElem_toArray, List.getElem_cons_succ, List.getElem_cons_zero, List.setIfInBounds_toArray, List.set_cons_zero, List.set_cons_succ])
  refine wpAnyH_take (i := 15) (v := ?_) rfl (by kernel_rfl) (by kernel_rfl) (by kernel_rfl) (fun _ _ _ h => h) (Or.inl ⟨by rfl, ?_⟩) (by assumption) ?_
  rotate_left
  · intro w hSw; (try dsimp only at hSw); go_simp; first | done | with_reducible rfl
  (try simp only [Act.put, Array.getInternal_eq_getElem, List.getElem_toArray, List.getElem_cons_succ, List.getElem_cons_zero, List.setIfInBounds_toArray, List.set_cons_zero, List.set_cons_succ])
  refine wpAnyH_take (i := 16) (v := ?_) rfl (by kernel_rfl) (by kernel_rfl) (by kernel_rfl) (fun _ _ _ h => h) (Or.inl ⟨by rfl, ?_⟩) (by assumption) ?_
  rotate_left
  · intro w hSw; (try dsimp only at hSw); go_simp; first | done | with_reducible rfl
  (try simp only [Act.put, Array.getInternal_eq_getElem, List.getElem_toArray, List.getElem_cons_succ, List.getElem_cons_zero, List.setIfInBounds_toArray, List.set_cons_zero, List.set_cons_succ])
  refine wpAnyH_take (i := 17) (v := ?_) rfl (by kernel_rfl) (by kernel_rfl) (by kernel_rfl) (fun _ _ _ h => h) (Or.inl ⟨by rfl, ?_⟩) (by assumption) ?_
  rotate_left
  · intro w hSw; (try dsimp only at hSw); go_simp; first | done | with_reducible rfl
  (try simp only [Act.put, Array.getInternal_eq_getElem, List.getElem_toArray, List.getElem_cons_succ, List.getElem_cons_zero, List.setIfInBounds_toArray, List.set_cons_zero, List.set_cons_succ])
  refine wpAnyH_ready (rs := [4]) (by kernel_rfl) (by simp) ?_
  refine AllReadyH.cons rfl (fun K hK => ?_) AllReadyH.nil
  go_simp
  refine (place_walk i.jb i.db _ v.last u _ HTwd.out.at'.jour HOK.out.sup.geo HUB.out.1 HUB.out.2).mono ?_
  rintro e we ⟨rfl, hbe⟩
  have HTwe := Lib.hid (HTwd.out.below hbe)
  have HLT := Lib.hid (fun x (hx : x ∈ v.d.foot i.db) => Nat.lt_of_lt_of_le (HTwd.out.at'.disk.lt x hx) hbe.size)
  clear hbe
  (try go_wp2_with fail)
  refine hK.out _ _ (HTwe.out.at'.jour.cell (i := 1) rfl) (fun hHeld2 => ?_)
  clear hK K hHeld
  have hHeld := hHeld2
  clear hHeld2
  (try simp only [Act.put, Array.getInternal_eq_getElem, List.getElem_toArray, List.getElem_cons_succ, List.getElem_cons_zero, List.setIfInBounds_toArray, List.set_cons_zero, List.set_cons_succ])
  refine wpAnyH_ready (rs := [6]) (by kernel_rfl) (by simp) ?_
  refine AllReadyH.cons rfl (fun K hK => ?_) AllReadyH.nil
  go_simp
  refine (jwrite_walk i.jb (4 + u) block _).mono ?_
  rintro e wf ⟨⟨p3a, p4a, p5a, rfl, hst, g3, g4, g5⟩, hb3⟩
  have HTwf := Lib.hid (HTwe.out.below hb3)
  have HSTa := Lib.hid hst
  have HGa := Lib.hid (And.intro g3 (And.intro g4 g5))
  have HZwf := Lib.hid hb3.size
  clear hb3 hst g3 g4 g5
  (try go_wp2_with fail)
  refine hK.out _ _ (HTwf.out.at'.jour.cell (i := 1) rfl) (fun hHeld2 => ?_)
  clear hK K hHeld
  have hHeld := hHeld2
  clear hHeld2
  (try simp only [Act.put, Array.getInternal_eq_getElem, List.getElem_toArray, List.getElem_cons_succ, List.getElem_cons_zero, List.setIfInBounds_toArray, List.set_cons_zero, List.set_cons_succ])
  refine wpAnyH_ready (rs := [10]) (by kernel_rfl) (by simp) ?_
  refine AllReadyH.cons rfl (fun K hK => ?_) AllReadyH.nil
  go_simp
  refine (geomKey_walk (m : Int) _ (by omega)).mono ?_
  rintro e w' ⟨rfl, rfl⟩
  (try go_wp2_with fail)
  refine hK.out _ _ (HTwf.out.at'.jour.cell (i := 1) rfl) (fun hHeld2 => ?_)
  clear hK K hHeld
  have hHeld := hHeld2
  clear hHeld2
  (try simp only [Act.put, Array.getInternal_eq_getElem, List.getElem_toArray, List.getElem_cons_succ, List.getElem_cons_zero, List.setIfInBounds_toArray, List.set_cons_zero, List.set_cons_succ])
  refine wpAnyH_ready (rs := [12]) (by kernel_rfl) (by simp) ?_
  refine AllReadyH.cons rfl (fun K hK => ?_) AllReadyH.nil
  go_simp
  refine (jwrite_walk i.jb (2 + (m : Int) % 2) kb _).mono ?_
  rintro e wg ⟨⟨p3b, p4b, p5b, rfl, hst, g3, g4, g5⟩, hb3⟩
  have HTwg := Lib.hid (HTwf.out.below hb3)
  have HSTb := Lib.hid hst
  have HGb := Lib.hid (And.intro g3 (And.intro g4 g5))
  have HZwg := Lib.hid hb3.size
  have HSTa2 := Lib.hid (HSTa.out.below hb3)
  clear hb3 hst g3 g4 g5
  (try go_wp2_with fail)
  refine hK.out _ _ (HTwg.out.at'.jour.cell (i := 1) rfl) (fun hHeld2 => ?_)
  clear hK K hHeld
  have hHeld := hHeld2
  clear hHeld2
  (try simp only [Act.put, Array.getInternal_eq_getElem, List.getElem_toArray, List.getElem_cons_succ, List.getElem_cons_zero, List.setIfInBounds_toArray, List.set_cons_zero, List.set_cons_succ])
  refine wpAnyH_ready (rs := [18]) (by kernel_rfl) (by simp) ?_
  refine AllReadyH.cons rfl (fun K hK => ?_) AllReadyH.nil
  go_simp
  obtain ⟨wh, hwh⟩ : ∃ wh, wh = wg.alloc (Obj.cells #[.func (.func 237) #[] #[.pointer (some ⟨p3a, 0, none⟩), .pointer (some ⟨p4a, 0, none⟩), .pointer (some ⟨p5a, 0, none⟩)], .func (.func 237) #[] #[.pointer (some ⟨p3b, 0, none⟩), .pointer (some ⟨p4b, 0, none⟩), .pointer (some ⟨p5b, 0, none⟩)], .func (.func 151) #[.pointer (some ⟨i.db, 0, none⟩)] #[]] 167) := ⟨_, rfl⟩
  rw [← hwh]
  have hbh : Below wg.heap.size wg wh := by rw [hwh]; exact (Below.refl _ _).alloc (Nat.le_refl _) _
  have HROW := Lib.hid (show Blk wh wg.heap.size [.func (.func 237) #[] #[.pointer (some ⟨p3a, 0, none⟩), .pointer (some ⟨p4a, 0, none⟩), .pointer (some ⟨p5a, 0, none⟩)], .func (.func 237) #[] #[.pointer (some ⟨p3b, 0, none⟩), .pointer (some ⟨p4b, 0, none⟩), .pointer (some ⟨p5b, 0, none⟩)], .func (.func 151) #[.pointer (some ⟨i.db, 0, none⟩)] #[]] 167 from by rw [hwh]; exact Blk.new wg _ _)
  have HTwh := Lib.hid (HTwg.out.below hbh)
  have HSTa3 := Lib.hid (HSTa2.out.below hbh)
  have HSTb3 := Lib.hid (HSTb.out.below hbh)
  clear hbh hwh
  (try go_wp2_with fail)
  refine hK.out _ _ (HTwh.out.at'.jour.cell (i := 1) rfl) (fun hHeld2 => ?_)
  clear hK K hHeld
  have hHeld := hHeld2
  clear hHeld2
  (try simp only [Act.put, Array.getInternal_eq_getElem, List.getElem_toArray, List.getElem_cons_succ, List.getElem_cons_zero, List.setIfInBounds_toArray, List.set_cons_zero, List.set_cons_succ])
  refine wpAnyH_ready (rs := [19]) (by kernel_rfl) (by simp) ?_
  refine AllReadyH.cons rfl (fun K hK => ?_) AllReadyH.nil
  go_simp
  refine (jstepsWWF_walk i.jb i.db wg.heap.size 3 v.last.geo.blocks.toNat v.used.toNat p3a p4a p5a (4 + u) block p3b p4b p5b (2 + (m : Int) % 2) kb 167 v.d _ HTwh.out.at'.disk HROW.out (HTwh.out.at'.jour.cell (i := 1) rfl) HTwh.out.at'.jour.lt HSTa3.out HSTb3.out (by
    intro x hx hm
    have hlt := HLT.out x hm
    have h1 := HGa.out
    have h2 := HGb.out
    have h3 := HZwf.out
    have h4 := HZwg.out
    rcases hx with rfl | rfl | rfl | rfl | rfl | rfl | rfl | rfl
    · omega
    · exact (HTwh.out.at'.jour.ty.notin HTwh.out.at'.disk.tyIn (by decide)) hm
    all_goals omega) HOK.out.calm (by have := HOK.out.few; omega) HOK.out.blocks ⟨by have := HUB.out.1; omega, by have := HUB.out.2; omega⟩ HB.out.1 ⟨by omega, by have := HOK.out.sup.geo.b0; omega⟩ (by rw [HTK.out.size]; exact keyL_length HB.out.2)).mono ?_
  rintro e w2 ⟨rfl, d2, hd2, ht2⟩
  have HD2 := Lib.hid hd2
  have HT2 := Lib.hid (HTwh.out.trans (HTwh.out.at'.disk_to ht2))
  clear ht2 hd2
  (try go_wp2_with fail)
  refine hK.out _ _ (HT2.out.at'.jour.cell (i := 1) rfl) (fun hHeld2 => ?_)
  clear hK K hHeld
  have hHeld := hHeld2
  clear hHeld2
  (try simp only [Act.put, Array.getInternal_eq_getElem, List.getElem_toArray, List.getElem_cons_succ, List.getElem_cons_zero, List.setIfInBounds_toArray, List.set_cons_zero, List.set_cons_succ])
  refine wpAnyH_take (i := 20) (v := ?_) rfl (by kernel_rfl) (by kernel_rfl) (by kernel_rfl) (fun _ _ _ h => h) (Or.inl ⟨by rfl, ?_⟩) (by assumption) ?_
  rotate_left
  · intro w hSw; (try dsimp only at hSw); go_simp; first | done | with_reducible rfl
  (try simp only [Act.put, Array.getInternal_eq_getElem, List.getElem_toArray, List.getElem_cons_succ, List.getElem_cons_zero, List.setIfInBounds_toArray, List.set_cons_zero, List.set_cons_succ])
  refine wpAnyH_done (by kernel_rfl) ?_ _
  clear hHeld
  have HC2 := Lib.hid (show Calm d2 v.last.geo.blocks.toNat 0 from by
    rw [HD2.out]
    have k1 := HOK.out.calm.put (i := 4 + u) (by have := HUB.out; omega) (by have := HUB.out; omega) v.d.cv block
    have k2 := k1.put (i := 2 + (m : Int) % 2) (by omega) (by have := HOK.out.sup.geo.b0; omega) v.d.cv kb
    exact k2.flushed)
  have HO2 := Lib.hid (show VolOk { { v with used := u + 1 } with d := d2 } from ⟨HOK.out.sup, by show 0 ≤ u + 1; have := HUB.out; omega, by show u + 1 ≤ v.last.geo.blocks - 4; have := HUB.out; omega, HC2.out.mono (Nat.zero_le _)⟩)
  go_wp2_with fail
  refine (HJN.out _ _ HT2.out.at' HO2.out rfl).mono ?_
  rintro e w3 ⟨rfl, hb3⟩
  have HT3 := Lib.hid (HT2.out.below hb3)
  have HW3 := Lib.hid (show w.heap.size ≤ w3.heap.size from HT3.out.turned.size)
  have HF3 := Lib.hid (fun x (hx : x ∈ d2.foot i.db) => HT3.out.at'.disk.lt x hx)
  have HJ3 := Lib.hid HT3.out.at'.jour.lt
  clear hb3
  go_upto_region 18 with (first
    | ((with_reducible refine wpList_alloc_new 135 _ zeroSup (some 19) ?hgd ?ho ?hd ?_); (case hgd | ho | hd => rfl); (intro b19 wq l19 B19 e19 z19))
    | ((with_reducible refine wpList_store_new 135 (.tmp 19) (.tmp 106) b19 SupD.zero.cells ((⟨v.last.gen + 1, u + 1, v.last.epoch, clock, v.last.geo⟩ : SupD).cells) 135 B19 rfl sizeSup (sup_one _) ?hgd ?ho ?hx ?hy ?_); (case hgd | ho | hx | hy => rfl); (intro wr Br or))
    | fail)
  obtain ⟨S2, hS2⟩ : ∃ S2, S2 = (⟨v.last.gen + 1, u + 1, (m : Int), clock, v.last.geo⟩ : SupD) := ⟨_, rfl⟩
  have HS2 := Lib.hid (show S2 = closeSup v clock from by rw [hS2]; unfold closeSup; rw [HU.out, HEPV.out, HM.out])
  have HSE := Lib.hid hS2
  clear hS2
  have HBq := Lib.hid Br
  have HBEr := Lib.hid (show Below w3.heap.size w3 wr from or.below (e19.mono l19) l19)
  have HLr := Lib.hid (show w3.heap.size ≤ b19 from l19)
  clear B19 Br e19 or z19 l19
  have c2 : wr.cell? ⟨b19, 2, none⟩ = some (.int .i64 v.last.epoch) := HBq.out.cell (i := 2) rfl
  have f2 := HBq.out.free 2
  go_upto_region 19 with fail
  obtain ⟨w4, hw4⟩ : ∃ w4, wr.setCell ⟨b19, 2, none⟩ (.int .i64 (m : Int)) = w4 := ⟨_, rfl⟩
  have HB4 := Lib.hid (show Blk w4 b19 S2.cells 135 from by rw [← hw4, HSE.out]; exact (HBq.out.set 2 _).ext rfl)
  have HT4 := Lib.hid (show VolTo w w4 i v i { { v with used := u + 1 } with d := d2 } from by rw [← hw4]; exact HT3.out.below (HBEr.out.setCell (p := ⟨b19, 2, none⟩) HLr.out _))
  rw [hw4]
  clear hw4 c2 f2
  go_wp2_with (first
    | ((with_reducible refine wpList_load_blk 135 (.tmp 19) b19 S2.cells 135 _ HB4.out Tryz.underlying135 rfl sizeSup ?hgd ?ho ?hx ?_); (case hgd | ho | hx => rfl))
    | fail)
  refine (jcommit_walk i.jb i.db (.pointer (some ⟨i.sb, 0, none⟩)) d2 v.last S2 _ HT4.out.at'.disk HT4.out.at'.jour (HT4.out.at'.jour.ty.notin HT4.out.at'.disk.tyIn (by decide)) (by rw [HS2.out]; exact HSUP.out) HC2.out.up HC2.out.left (by have := HC2.out.few; omega) (by rw [HC2.out.len]; exact HOK.out.blocks) (by rw [HC2.out.len]; have := HOK.out.sup.geo.b0; omega) HC2.out.hin).mono ?_
  rintro e w5 ⟨rfl, d3, q, hd3, tq, hda, hjb, ht5, hf5⟩
  have HD3 := Lib.hid hd3
  have HTQ := Lib.hid tq
  have HC3 := Lib.hid (show Calm d3 v.last.geo.blocks.toNat 0 from by
    rw [hd3]
    have hcs : d2.cs = [] := List.eq_nil_of_length_eq_zero (by have := HC2.out.few; omega)
    have k1 := HC2.out.put (i := S2.gen % 2) (by omega) (by have := HOK.out.sup.geo.b0; omega) d2.cv q
    exact k1.flushed)
  have HT5 := Lib.hid (HT4.out.trans (HT4.out.at'.jdisk ht5 (by show S2.geo = v.last.geo; rw [HSE.out]) hda hjb hf5))
  clear hd3 tq hda hjb ht5 hf5
  go_upto_region 22 with fail
  refine wp_region_held_drew (S := fun wx => wx.cell? ⟨i.jb, 1, none⟩ = some (.pointer (some ⟨i.db, 0, none⟩))) (by kernel_rfl) (HT5.out.at'.jour.drew.cell (i := 1) rfl) (fun hHeld => ?_)
  obtain ⟨wd, hwd⟩ : ∃ wd, wd = w5.drew := ⟨_, rfl⟩
  have HTx := Lib.hid (show VolTo w wd i v i { { { v with used := u + 1 } with d := d2 } with d := d3, last := S2 } from by rw [hwd]; exact HT5.out.below (Below.refl _ _).drew)
  rw [← hwd]
  rw [← hwd] at hHeld
  clear hwd
  refine wpAnyH_take (i := 0) (v := ?_) rfl (by kernel_rfl) (by kernel_rfl) (by kernel_rfl) (fun _ _ _ h => h) (Or.inl ⟨by rfl, ?_⟩) (by assumption) ?_
  rotate_left
  · intro w hSw; (try dsimp only at hSw); go_simp; first | done | with_reducible rfl
  (try simp only [Act.put, Array.getInternal_eq_getElem, List.getElem_toArray, List.getElem_cons_succ, List.getElem_cons_zero, List.setIfInBounds_toArray, List.set_cons_zero, List.set_cons_succ])
  refine wpAnyH_take (i := 1) (v := ?_) rfl (by kernel_rfl) (by kernel_rfl) (by kernel_rfl) (fun _ _ _ h => h) (Or.inl ⟨by rfl, ?_⟩) (by assumption) ?_
  rotate_left
  · intro w hSw; (try dsimp only at hSw); go_simp; first | done | with_reducible rfl
  (try simp only [Act.put, Array.getInternal_eq_getElem, List.getElem_toArray, List.getElem_cons_succ, List.getElem_cons_zero, List.setIfInBounds_toArray, List.set_cons_zero, List.set_cons_succ])
  refine wpAnyH_take (i := 2) (v := ?_) rfl (by kernel_rfl) (by kernel_rfl) (by kernel_rfl) (fun _ _ _ h => h) (Or.inl ⟨by rfl, ?_⟩) (by assumption) ?_
  rotate_left
  · intro w hSw; (try dsimp only at hSw); go_simp; first | done | with_reducible rfl
  (try simp only [Act.put, Array.getInternal_eq_getElem, List.getElem_toArray, List.getElem_cons_succ, List.getElem_cons_zero, List.setIfInBounds_toArray, List.set_cons_zero, List.set_cons_succ])
  refine wpAnyH_take (i := 6) (v := ?_) rfl (by kernel_rfl) (by kernel_rfl) (by kernel_rfl) (fun _ _ _ h => h) (Or.inl ⟨by rfl, ?_⟩) (by assumption) ?_
  rotate_left
  · intro w hSw; (try dsimp only at hSw); go_simp; first | done | with_reducible rfl
  (try simp only [Act.put, Array.getInternal_eq_getElem, List.getElem_toArray, List.getElem_cons_succ, List.getElem_cons_zero, List.setIfInBounds_toArray, List.set_cons_zero, List.set_cons_succ])
  refine wpAnyH_take (i := 7) (v := ?_) rfl (by kernel_rfl) (by kernel_rfl) (by kernel_rfl) (fun _ _ _ h => h) (Or.inl ⟨by rfl, ?_⟩) (by assumption) ?_
  rotate_left
  · intro w hSw; (try dsimp only at hSw); go_simp; first | done | with_reducible rfl
  (try simp only [Act.put, Array.getInternal_eq_getElem, List.getElem_toArray, List.getElem_cons_succ, List.getElem_cons_zero, List.setIfInBounds_toArray, List.set_cons_zero, List.set_cons_succ])
  refine wpAnyH_take (i := 8) (v := ?_) rfl (by kernel_rfl) (by kernel_rfl) (by kernel_rfl) (fun _ _ _ h => h) (Or.inl ⟨by rfl, ?_⟩) (by assumption) ?_
  rotate_left
  · intro w hSw; (try dsimp only at hSw); go_simp; first | done | with_reducible rfl
  (try simp only [Act.put, Array.getInternal_eq_getElem, List.getElem_toArray, List.getElem_cons_succ, List.getElem_cons_zero, List.setIfInBounds_toArray, List.set_cons_zero, List.set_cons_succ])
  refine wpAnyH_take (i := 9) (v := ?_) rfl (by kernel_rfl) (by kernel_rfl) (by kernel_rfl) (fun _ _ _ h => h) (Or.inl ⟨by rfl, ?_⟩) (by assumption) ?_
  rotate_left
  · intro w hSw; (try dsimp only at hSw); go_simp; first | done | with_reducible rfl
  (try simp only [Act.put, Array.getInternal_eq_getElem, List.getElem_toArray, List.getElem_cons_succ, List.getElem_cons_zero, List.setIfInBounds_toArray, List.set_cons_zero, List.set_cons_succ])
  refine wpAnyH_take (i := 10) (v := ?_) rfl (by kernel_rfl) (by kernel_rfl) (by kernel_rfl) (fun _ _ _ h => h) (Or.inl ⟨by rfl, ?_⟩) (by assumption) ?_
  rotate_left
  · intro w hSw; (try dsimp only at hSw); go_simp; first | done | with_reducible rfl
  (try simp only [Act.put, Array.getInternal_eq_getElem, List.getElem_toArray, List.getElem_cons_succ, List.getElem_cons_zero, List.setIfInBounds_toArray, List.set_cons_zero, List.set_cons_succ])
  refine wpAnyH_ready (rs := [3]) (by kernel_rfl) (by simp) ?_
  refine AllReadyH.cons rfl (fun K hK => ?_) AllReadyH.nil
  go_simp
  refine (geomKey_walk ep _ HEP.out.1).mono ?_
  rintro e w' ⟨rfl, rfl⟩
  (try go_wp2_with fail)
  refine hK.out _ _ (HTx.out.at'.jour.cell (i := 1) rfl) (fun hHeld2 => ?_)
  clear hK K hHeld
  have hHeld := hHeld2
  clear hHeld2
  (try simp only [Act.put, Array.getInternal_eq_getElem, List.getElem_toArray, List.getElem_cons_succ, List.getElem_cons_zero, List.setIfInBounds_toArray, List.set_cons_zero, List.set_cons_succ])
  refine wpAnyH_ready (rs := [4]) (by kernel_rfl) (by simp) ?_
  refine AllReadyH.cons rfl (fun K hK => ?_) AllReadyH.nil
  go_simp
  refine (slotsEmpty_walk _).mono ?_
  rintro e we ⟨rfl, hbe⟩
  obtain ⟨nb, hnb⟩ : ∃ nb, nb = (⟨(List.replicate 4096 0).toArray⟩ : ByteArray) := ⟨_, rfl⟩
  rw [← hnb]
  have HNB := Lib.hid hnb
  have HTy := Lib.hid (HTx.out.below hbe)
  have HLT2 := Lib.hid (fun x (hx : x ∈ d3.foot i.db) => HTy.out.at'.disk.lt x hx)
  clear hbe hnb
  (try go_wp2_with fail)
  refine hK.out _ _ (HTy.out.at'.jour.cell (i := 1) rfl) (fun hHeld2 => ?_)
  clear hK K hHeld
  have hHeld := hHeld2
  clear hHeld2
  (try simp only [Act.put, Array.getInternal_eq_getElem, List.getElem_toArray, List.getElem_cons_succ, List.getElem_cons_zero, List.setIfInBounds_toArray, List.set_cons_zero, List.set_cons_succ])
  refine wpAnyH_ready (rs := [5]) (by kernel_rfl) (by simp) ?_
  refine AllReadyH.cons rfl (fun K hK => ?_) AllReadyH.nil
  go_simp
  refine (jwrite_walk i.jb (2 + ep % 2) nb _).mono ?_
  rintro e wf2 ⟨⟨p3c, p4c, p5c, rfl, hst, g3, g4, g5⟩, hb3⟩
  have HTwf2 := Lib.hid (HTy.out.below hb3)
  have HSTc := Lib.hid hst
  have HGc := Lib.hid (And.intro g3 (And.intro g4 g5))
  have HZwf2 := Lib.hid hb3.size
  clear hb3 hst g3 g4 g5
  (try go_wp2_with fail)
  refine hK.out _ _ (HTwf2.out.at'.jour.cell (i := 1) rfl) (fun hHeld2 => ?_)
  clear hK K hHeld
  have hHeld := hHeld2
  clear hHeld2
  (try simp only [Act.put, Array.getInternal_eq_getElem, List.getElem_toArray, List.getElem_cons_succ, List.getElem_cons_zero, List.setIfInBounds_toArray, List.set_cons_zero, List.set_cons_succ])
  refine wpAnyH_ready (rs := [11]) (by kernel_rfl) (by simp) ?_
  refine AllReadyH.cons rfl (fun K hK => ?_) AllReadyH.nil
  go_simp
  obtain ⟨wh, hwh⟩ : ∃ wh, wh = wf2.alloc (Obj.cells #[.func (.func 237) #[] #[.pointer (some ⟨p3c, 0, none⟩), .pointer (some ⟨p4c, 0, none⟩), .pointer (some ⟨p5c, 0, none⟩)], .func (.func 151) #[.pointer (some ⟨i.db, 0, none⟩)] #[]] 167) := ⟨_, rfl⟩
  rw [← hwh]
  have hbh : Below wf2.heap.size wf2 wh := by rw [hwh]; exact (Below.refl _ _).alloc (Nat.le_refl _) _
  have HROW2 := Lib.hid (show Blk wh wf2.heap.size [.func (.func 237) #[] #[.pointer (some ⟨p3c, 0, none⟩), .pointer (some ⟨p4c, 0, none⟩), .pointer (some ⟨p5c, 0, none⟩)], .func (.func 151) #[.pointer (some ⟨i.db, 0, none⟩)] #[]] 167 from by rw [hwh]; exact Blk.new wf2 _ _)
  have HTz := Lib.hid (HTwf2.out.below hbh)
  have HSTc2 := Lib.hid (HSTc.out.below hbh)
  clear hbh hwh
  (try go_wp2_with fail)
  refine hK.out _ _ (HTz.out.at'.jour.cell (i := 1) rfl) (fun hHeld2 => ?_)
  clear hK K hHeld
  have hHeld := hHeld2
  clear hHeld2
  (try simp only [Act.put, Array.getInternal_eq_getElem, List.getElem_toArray, List.getElem_cons_succ, List.getElem_cons_zero, List.setIfInBounds_toArray, List.set_cons_zero, List.set_cons_succ])
  refine wpAnyH_ready (rs := [12]) (by kernel_rfl) (by simp) ?_
  refine AllReadyH.cons rfl (fun K hK => ?_) AllReadyH.nil
  go_simp
  refine (jstepsWF_walk i.jb i.db wf2.heap.size 2 v.last.geo.blocks.toNat 0 p3c p4c p5c (2 + ep % 2) nb 167 d3 _ HTz.out.at'.disk HROW2.out (HTz.out.at'.jour.cell (i := 1) rfl) HTz.out.at'.jour.lt HSTc2.out (by
    intro x hx hm
    have hlt := HLT2.out x hm
    have h1 := HGc.out
    have h3 := HZwf2.out
    rcases hx with rfl | rfl | rfl | rfl | rfl
    · omega
    · exact (HTz.out.at'.jour.ty.notin HTz.out.at'.disk.tyIn (by decide)) hm
    all_goals omega) HC3.out (by decide) HOK.out.blocks ⟨by have := HEP.out.1; omega, by have := HOK.out.sup.geo.b0; omega⟩ (by rw [HNB.out]; simp [ByteArray.size])).mono ?_
  rintro e w6 ⟨rfl, d4, hd4, ht4⟩
  have HD4 := Lib.hid hd4
  have HT6 := Lib.hid (HTz.out.trans (HTz.out.at'.disk_to ht4))
  clear ht4 hd4
  (try go_wp2_with fail)
  refine hK.out _ _ (HT6.out.at'.jour.cell (i := 1) rfl) (fun hHeld2 => ?_)
  clear hK K hHeld
  have hHeld := hHeld2
  clear hHeld2
  (try simp only [Act.put, Array.getInternal_eq_getElem, List.getElem_toArray, List.getElem_cons_succ, List.getElem_cons_zero, List.setIfInBounds_toArray, List.set_cons_zero, List.set_cons_succ])
  refine wpAnyH_take (i := 13) (v := ?_) rfl (by kernel_rfl) (by kernel_rfl) (by kernel_rfl) (fun _ _ _ h => h) (Or.inl ⟨by rfl, ?_⟩) (by assumption) ?_
  rotate_left
  · intro w hSw; (try dsimp only at hSw); go_simp; first | done | with_reducible rfl
  (try simp only [Act.put, Array.getInternal_eq_getElem, List.getElem_toArray, List.getElem_cons_succ, List.getElem_cons_zero, List.setIfInBounds_toArray, List.set_cons_zero, List.set_cons_succ])
  refine wpAnyH_done (by kernel_rfl) ?_ _
  clear hHeld
  go_wp2_with fail
  go_ret2
  have hdd : d4 = closeDisk v block kb q nb := by
    have hg : S2.gen = v.last.gen + 1 := by rw [HSE.out]
    rw [HD4.out, HD3.out, hg, HD2.out]
    unfold closeDisk
    rw [HU.out, HEPV.out, HM.out]
    rfl
  have hT := HT6.out
  rw [hdd, HS2.out] at hT
  refine ⟨rfl, kb, q, nb, ?_, ?_, HNB.out, hT⟩
  · rw [HM.out]; exact HTK.out
  · rw [← HS2.out]; exact HTQ.out
end Go.Proofs.YtppdboadjefieaaGreat

namespace Go.Proofs.YtppdboadjefieaaGreat
open Go Go.RowKit

def closeD1 (v : VolD) (block kb : ByteArray) : DiskD := { ({ v.d with cs := v.d.cs ++ [(4 + v.used, block)] } : DiskD) with cs := ({ v.d with cs := v.d.cs ++ [(4 + v.used, block)] } : DiskD).cs ++ [(2 + (v.last.epoch + 1) % 2, kb)] }
def closeD2 (v : VolD) (block kb q : ByteArray) : DiskD := { (closeD1 v block kb).flushed with cs := (closeD1 v block kb).flushed.cs ++ [((v.last.gen + 1) % 2, q)] }
def closeD3 (v : VolD) (block kb q nb : ByteArray) : DiskD := { (closeD2 v block kb q).flushed with cs := (closeD2 v block kb q).flushed.cs ++ [(2 + v.last.epoch % 2, nb)] }
theorem closeDisk_is (v : VolD) (block kb q nb : ByteArray) : closeDisk v block kb q nb = (closeD3 v block kb q nb).flushed := rfl
theorem closeD1_calm {v : VolD} {n m : Nat} (h : Calm v.d n m) (u0 : 0 ≤ v.used) (u1 : 4 + v.used < n) (h4 : 4 ≤ n) (block kb : ByteArray) : Calm (closeD1 v block kb) n (m + 2) :=
  (h.put (i := 4 + v.used) (by omega) (by omega) v.d.cv block).put (i := 2 + (v.last.epoch + 1) % 2) (by omega) (by omega) v.d.cv kb
theorem closeD2_calm {v : VolD} {n m : Nat} (h : Calm v.d n m) (u0 : 0 ≤ v.used) (u1 : 4 + v.used < n) (h4 : 4 ≤ n) (block kb q : ByteArray) : Calm (closeD2 v block kb q) n 1 :=
  (closeD1_calm h u0 u1 h4 block kb).flushed.put (i := (v.last.gen + 1) % 2) (by omega) (by omega) _ q
theorem closeD3_calm {v : VolD} {n m : Nat} (h : Calm v.d n m) (u0 : 0 ≤ v.used) (u1 : 4 + v.used < n) (h4 : 4 ≤ n) (block kb q nb : ByteArray) : Calm (closeD3 v block kb q nb) n 1 :=
  (closeD2_calm h u0 u1 h4 block kb q).flushed.put (i := 2 + v.last.epoch % 2) (by omega) (by omega) _ nb
theorem closeDisk_calm {v : VolD} {n m : Nat} (h : Calm v.d n m) (u0 : 0 ≤ v.used) (u1 : 4 + v.used < n) (h4 : 4 ≤ n) (block kb q nb : ByteArray) : Calm (closeDisk v block kb q nb) n 0 :=
  (closeD3_calm h u0 u1 h4 block kb q nb).flushed
theorem closeDisk_shown {v : VolD} {n m : Nat} (h : Calm v.d n m) (u0 : 0 ≤ v.used) (u1 : 4 + v.used < n) (h4 : 4 ≤ n) (block kb q nb : ByteArray) (i : Int) (hi : 4 ≤ i) :
    (closeDisk v block kb q nb).shown i = if 4 + v.used = i then block else v.d.shown i := by
  rw [closeDisk_is, shown_flushed (closeD3_calm h u0 u1 h4 block kb q nb) i (by omega)]
  have e3 : (closeD3 v block kb q nb).shown i = (closeD2 v block kb q).flushed.shown i :=
    (shown_put (closeD2 v block kb q).flushed (closeD2 v block kb q).flushed.cv (2 + v.last.epoch % 2) i nb).trans (if_neg (by omega))
  have e2 : (closeD2 v block kb q).shown i = (closeD1 v block kb).flushed.shown i :=
    (shown_put (closeD1 v block kb).flushed (closeD1 v block kb).flushed.cv ((v.last.gen + 1) % 2) i q).trans (if_neg (by omega))
  have e1 : (closeD1 v block kb).shown i = ({ v.d with cs := v.d.cs ++ [(4 + v.used, block)] } : DiskD).shown i :=
    (shown_put ({ v.d with cs := v.d.cs ++ [(4 + v.used, block)] } : DiskD) v.d.cv (2 + (v.last.epoch + 1) % 2) i kb).trans (if_neg (by omega))
  have e0 := shown_put v.d v.d.cv (4 + v.used) i block
  rw [e3, shown_flushed (closeD2_calm h u0 u1 h4 block kb q) i (by omega), e2, shown_flushed (closeD1_calm h u0 u1 h4 block kb) i (by omega), e1]
  exact e0
end Go.Proofs.YtppdboadjefieaaGreat

namespace Go.Proofs.YtppdboadjefieaaGreat
open Go Go.RowKit
set_option maxRecDepth 100000

theorem vol_there (vb jb bb : Nat) (key data : ByteArray) (xv sv cv rv : Value) (w : World) (h : Blk w vb [.pointer (some ⟨jb, 0, none⟩), .string key, .string data, xv, sv, .pointer (some ⟨bb, 0, none⟩), cv, rv] 50) :
    Calls Tryz.prog 55 #[.pointer (some ⟨vb, 0, none⟩)] w fun e w' => e = .returned (.bool true) ∧ w = w' := by
  have c0 := h.cell (i := 0) rfl
  have c5 := h.cell (i := 5) rfl
  go_enter Tryz.func55, Tryz.ntmps55
  go_wp2_with fail
  go_ret
  exact ⟨rfl, rfl⟩
theorem form_shown1 (n : Nat) (v : Value) (i : Nat) (kb q : ByteArray) (h : 2 ≤ n) : (formDisk n v i kb q).shown 1 = q := by
  show (((List.replicate n noughtB).set i kb).set 1 q).getD 1 ByteArray.empty = q
  rw [List.getD, List.getElem?_set_self (by simp; omega)]
  rfl
theorem form_shownK (n : Nat) (v : Value) (i : Nat) (kb q : ByteArray) (h : i < n) (h1 : i ≠ 1) : (formDisk n v i kb q).shown (i : Int) = kb := by
  show (((List.replicate n noughtB).set i kb).set 1 q).getD i ByteArray.empty = kb
  rw [List.getD, List.getElem?_set_ne (by omega), List.getElem?_set_self (by simp; omega)]
  rfl
theorem form_shown0 (n : Nat) (v : Value) (i j : Nat) (kb q : ByteArray) (h : j < n) (h1 : j ≠ 1) (h2 : j ≠ i) : (formDisk n v i kb q).shown (j : Int) = (⟨(List.replicate 4096 0).toArray⟩ : ByteArray) := by
  show (((List.replicate n noughtB).set i kb).set 1 q).getD j ByteArray.empty = noughtB
  rw [List.getD, List.getElem?_set_ne (by omega), List.getElem?_set_ne (by omega)]
  simp [h]
theorem form_len (n : Nat) (v : Value) (i : Nat) (kb q : ByteArray) : (formDisk n v i kb q).bs.length = n := by
  show (((List.replicate n noughtB).set i kb).set 1 q).length = n
  simp
theorem sup_form {n ep : Nat} {lbas : Int} (hg : GeoOk ⟨(n : Int), lbas, (ep : Int)⟩) : SupOk (⟨1, ((0 : Nat) : Int), (ep : Int), 0, ⟨(n : Int), lbas, (ep : Int)⟩⟩ : SupD) := by
  have h8 := hg.b0
  have h1 := hg.f1
  simp only at h8 h1
  refine ⟨hg, ?_, ?_, ?_, ?_, ?_, ?_, ?_, ?_⟩ <;> (try simp only) <;> omega
theorem form_found (db n ep : Nat) (lbas : Int) (v : Value) (key kb q : ByteArray) (hg : GeoOk ⟨(n : Int), lbas, (ep : Int)⟩) (hk : key.size = 32) (tk : Txt kb (keyL (ep : Int) key.data.toList)) (tq : Txt q (supL ⟨1, 0, ep, 0, ⟨(n : Int), lbas, (ep : Int)⟩⟩)) :
    ∀ wx, DiskAt wx db (formDisk n v (2 + ep % 2) kb q) → Calls Tryz.prog 262 #[.pointer (some ⟨db, 0, none⟩)] wx fun e w' => e = .returned (.tuple #[(⟨1, ((0 : Nat) : Int), (ep : Int), 0, ⟨(n : Int), lbas, (ep : Int)⟩⟩ : SupD).v, .string key, .int .i64 0]) ∧ Below wx.heap.size wx w' := by
  intro wx hx
  have h8 : 8 ≤ n := by have := hg.b0; simp only at this; omega
  have h9 : n ≤ 1024 := by have := hg.b1; simp only at this; omega
  have hl := form_len n v (2 + ep % 2) kb q
  refine found_walk db _ ⟨1, ((0 : Nat) : Int), (ep : Int), 0, ⟨(n : Int), lbas, (ep : Int)⟩⟩ ep key wx hx rfl (Nat.zero_le _) (by rw [hl]; exact h9) (by rw [hl]; omega) (sup_form hg) rfl (by rw [hl]) (form_shown0 n v _ 0 kb q (by omega) (by omega) (by omega)) ?_ hk ?_
  · rw [form_shown1 n v _ kb q (by omega)]; exact tq
  · by_cases hp : ep % 2 = 0
    · have e2 : (formDisk n v (2 + ep % 2) kb q).shown 2 = kb := by have := form_shownK n v (2 + ep % 2) kb q (by omega) (by omega); rw [hp] at this ⊢; exact this
      simp only [hp, if_true]
      rw [hp] at e2
      rw [e2]; exact tk
    · have h1 : ep % 2 = 1 := by omega
      have e2 : (formDisk n v (2 + ep % 2) kb q).shown 3 = kb := by have := form_shownK n v (2 + ep % 2) kb q (by omega) (by omega); rw [h1] at this ⊢; exact this
      rw [if_neg hp]
      rw [e2]; exact tk
theorem form_stale (n ep : Nat) (v : Value) (kb q : ByteArray) (h8 : 8 ≤ n) : (if ep % 2 = 0 then (formDisk n v (2 + ep % 2) kb q).shown 3 else (formDisk n v (2 + ep % 2) kb q).shown 2) = (⟨(List.replicate 4096 0).toArray⟩ : ByteArray) := by
  by_cases hp : ep % 2 = 0
  · rw [if_pos hp]; exact form_shown0 n v _ 3 kb q (by omega) (by omega) (by omega)
  · rw [if_neg hp]; exact form_shown0 n v _ 2 kb q (by omega) (by omega) (by omega)
theorem VolNew.lower {w : World} {lo lo' vb jb sb db xb bb cb c2 m1 m2 m3 : Nat} {ro : Option Addr} {key data : ByteArray} {gen clock n lbas first ep : Int} {d : DiskD} (h : VolNew w lo vb jb sb db xb bb cb c2 m1 m2 m3 ro key data gen clock n lbas first ep d) (hl : lo' ≤ lo) : VolNew w lo' vb jb sb db xb bb cb c2 m1 m2 m3 ro key data gen clock n lbas first ep d :=
  ⟨h.vol, h.jour, h.space, h.disk, h.index, h.book, h.bclock, h.clock, h.maps, ⟨Nat.le_trans hl h.o.1, h.o.2⟩, ⟨Nat.le_trans hl h.om.1, Nat.le_trans hl h.om.2.1, Nat.le_trans hl h.om.2.2⟩⟩
theorem form_mount (db n ep : Nat) (ro : Option Addr) (lbas : Int) (v : Value) (key data kb q : ByteArray) (w : World) (hg : GeoOk ⟨(n : Int), lbas, (ep : Int)⟩) (hk : key.size = 32) (tk : Txt kb (keyL (ep : Int) key.data.toList)) (tq : Txt q (supL ⟨1, 0, ep, 0, ⟨(n : Int), lbas, (ep : Int)⟩⟩))
    (hdata : data.size = 16) (h : DiskAt w db (formDisk n v (2 + ep % 2) kb q)) :
    Calls Tryz.prog 81 #[.pointer (some ⟨db, 0, none⟩), .string data, .pointer ro] w fun e w' => (∃ vb jb sb xb bb cb c2 m1 m2 m3, e = .returned (.tuple #[.pointer (some ⟨vb, 0, none⟩), .int .i64 0]) ∧ VolNew w' w.heap.size vb jb sb db xb bb cb c2 m1 m2 m3 ro key data 1 0 n lbas ep ep (formDisk n v (2 + ep % 2) kb q)) ∧ Below w.heap.size w w' := by
  have h8 : 8 ≤ n := by have := hg.b0; simp only at this; omega
  have h9 : n ≤ 1024 := by have := hg.b1; simp only at this; omega
  have hl := form_len n v (2 + ep % 2) kb q
  exact mount0_walk db n ep ro 1 0 lbas (ep : Int) key data _ w h hdata rfl (sup_form hg) rfl (Nat.zero_le _) (by rw [hl]; exact h9) hl (fun i h4 hi => form_shown0 n v _ i kb q hi (by omega) (by omega)) (form_stale n ep v kb q h8) (form_found db n ep lbas v key kb q hg hk tk tq)
end Go.Proofs.YtppdboadjefieaaGreat

namespace Go.Proofs.YtppdboadjefieaaGreat
open Go

def mulStep (s : UInt8 × UInt8 × UInt8) : UInt8 × UInt8 × UInt8 :=
  (if s.2.2 &&& 1 = 1 then s.1 ^^^ s.2.1 else s.1, (s.2.1 <<< 1) ^^^ ((s.2.1 >>> 7) * 27), s.2.2 >>> 1)
def mulTo (a b : UInt8) : Nat → UInt8 × UInt8 × UInt8
  | 0 => (0, a, b)
  | k + 1 => mulStep (mulTo a b k)
def mulB (a b : UInt8) : UInt8 := (mulTo a b 8).1
def turnB (b n : UInt8) : UInt8 := (b <<< n) ||| (b >>> (8 - n))
def boxTo : Nat → UInt8 × UInt8 × List UInt8
  | 0 => (1, 1, List.replicate 256 0)
  | k + 1 =>
    let p := mulB (boxTo k).1 3
    let q := mulB (boxTo k).2.1 246
    (p, q, (boxTo k).2.2.set p.toNat (q ^^^ turnB q 1 ^^^ turnB q 2 ^^^ turnB q 3 ^^^ turnB q 4 ^^^ 99))
theorem boxTo_length : ∀ k, (boxTo k).2.2.length = 256
  | 0 => by show (List.replicate 256 (0 : UInt8)).length = 256; exact List.length_replicate
  | k + 1 => by simp only [boxTo, List.length_set]; exact boxTo_length k
def boxL : List UInt8 := (boxTo 255).2.2.set 0 99
theorem boxL_length : boxL.length = 256 := by unfold boxL; rw [List.length_set, boxTo_length]
def boxB (b : UInt8) : UInt8 := boxL.getD b.toNat 0
def stepTo (f : Nat → UInt8) (l : List UInt8) (k : Nat) : List UInt8 := (List.range k).map f ++ l.drop k
theorem stepTo_length (f : Nat → UInt8) (l : List UInt8) (k : Nat) (h : k ≤ l.length) : (stepTo f l k).length = l.length := by simp [stepTo]; omega
theorem stepTo_zero (f : Nat → UInt8) (l : List UInt8) : stepTo f l 0 = l := by simp [stepTo]
theorem stepTo_at (f : Nat → UInt8) (l : List UInt8) (k j : Nat) (hj : k ≤ j) (h : k ≤ l.length) : (stepTo f l k)[j]? = l[j]? := by
  unfold stepTo
  rw [List.getElem?_append_right (by simp; omega)]
  simp
  rw [show k + (j - k) = j by omega]
theorem stepTo_set (f : Nat → UInt8) (l : List UInt8) (k : Nat) (h : k < l.length) : (stepTo f l k).set k (f k) = stepTo f l (k + 1) := by
  unfold stepTo
  have e : l.drop k = l[k] :: l.drop (k + 1) := List.drop_eq_getElem_cons h
  rw [e, List.range_succ, List.map_append, List.append_assoc, List.set_append_right _ _ (by simp)]
  simp only [List.length_map, List.length_range, Nat.sub_self, List.set_cons_zero, List.map_cons, List.map_nil, List.cons_append, List.nil_append]
theorem stepTo_all (f : Nat → UInt8) (l : List UInt8) (n : Nat) (h : l.length = n) : stepTo f l n = (List.range n).map f := by
  unfold stepTo
  rw [List.drop_of_length_le (by omega), List.append_nil]
def addL (x w : List UInt8) (r : Nat) : List UInt8 := (List.range 16).map fun i => x.getD i 0 ^^^ w.getD (16 * r + i) 0
def turnL (x : List UInt8) : List UInt8 := (List.range 16).map fun i => x.getD ((i / 4 + i % 4) % 4 * 4 + i % 4) 0
def mixTo (x by4 : List UInt8) (i : Nat) : Nat → UInt8
  | 0 => 0
  | k + 1 => mixTo x by4 i k ^^^ mulB (x.getD (i / 4 * 4 + k) 0) (by4.getD ((k + 4 - i % 4) % 4) 0)
def mixL (x by4 : List UInt8) : List UInt8 := (List.range 16).map fun i => mixTo x by4 i 4
def eachL (x : List UInt8) : List UInt8 := (List.range 16).map fun i => boxB (x.getD i 0)
def wordT (w : List UInt8) (i : Nat) (power : UInt8) : List UInt8 :=
  let t := (List.range 4).map fun r => w.getD (4 * (i - 1) + r) 0
  if i % 4 = 0 then [boxB (t.getD 1 0) ^^^ power, boxB (t.getD 2 0), boxB (t.getD 3 0), boxB (t.getD 0 0)] else t
def expTo (key : List UInt8) : Nat → List UInt8 × UInt8
  | 0 => ([], 1)
  | i + 1 =>
    if i < 4 then ((expTo key i).1 ++ (List.range 4).map (fun r => key.getD (4 * i + r) 0), (expTo key i).2)
    else ((expTo key i).1 ++ (List.range 4).map (fun r => (expTo key i).1.getD (4 * (i - 4) + r) 0 ^^^ (wordT (expTo key i).1 i (expTo key i).2).getD r 0), if i % 4 = 0 then mulB (expTo key i).2 2 else (expTo key i).2)
theorem expTo_length (key : List UInt8) : ∀ i, (expTo key i).1.length = 4 * i
  | 0 => rfl
  | i + 1 => by
    unfold expTo
    split <;> simp [expTo_length key i] <;> omega
def expL (key : List UInt8) : List UInt8 := (expTo key 44).1
theorem expL_length (key : List UInt8) : (expL key).length = 176 := by unfold expL; rw [expTo_length]
def encTo (w x : List UInt8) : Nat → List UInt8
  | 0 => addL x w 0
  | r + 1 => addL (if r + 1 < 10 then mixL (turnL (eachL (encTo w x r))) [2, 3, 1, 1] else turnL (eachL (encTo w x r))) w (r + 1)
theorem addL_length (x w : List UInt8) (r : Nat) : (addL x w r).length = 16 := by simp [addL]
theorem turnL_length (x : List UInt8) : (turnL x).length = 16 := by simp [turnL]
theorem mixL_length (x b : List UInt8) : (mixL x b).length = 16 := by simp [mixL]
theorem eachL_length (x : List UInt8) : (eachL x).length = 16 := by simp [eachL]
theorem encTo_length (w x : List UInt8) (r : Nat) : (encTo w x r).length = 16 := by cases r <;> simp only [encTo, addL_length]
end Go.Proofs.YtppdboadjefieaaGreat

