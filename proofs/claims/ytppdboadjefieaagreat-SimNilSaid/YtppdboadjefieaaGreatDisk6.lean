/- Copies of rows; Seize (chapter 8). -/
import Derived.Test.YtppdboadjefieaaGreatDisk3
import Derived.Test.YtppdboadjefieaaGreatMem2
import Derived.Test.YtppdboadjefieaaGreatDisk1
import Derived.OrdersHeld
import Derived.Lib.SliceRun
import Derived.Deep.DeepAppendWide
namespace Go.Proofs.YtppdboadjefieaaGreat
set_option linter.unusedSimpArgs false
set_option linter.unusedVariables false
open Go Go.RowKit
set_option linter.unusedVariables false
set_option maxRecDepth 100000

theorem infoPut6 : (Tryz.prog.info? 129).map (fun i => (i.zero, i.size, i.bytes)) = some (some (.agg #[.int .i64 0, .string ⟨#[]⟩]), 2, 24) := by kernel_rfl
theorem infoStr6 : (Tryz.prog.info? 9).map (fun i => (i.zero, i.size, i.bytes)) = some (some (.string ⟨#[]⟩), 1, 16) := by kernel_rfl
set_option maxHeartbeats 1000000 in
theorem cloneStrs_walk (v : Value) (n : Nat) (xs : List ByteArray) (w : World) (h : w.ownsRow 0 9 1 v n ((xs.map .string : List Value))) (hn : n ≤ 4096) :
    Calls Tryz.prog 50 #[v] w fun e w' => (∃ v', e = .returned v' ∧ w'.ownsRow w.heap.size 9 1 v' n ((xs.map .string : List Value))) ∧ Below w.heap.size w w' := by
  obtain ⟨i0, hi, hz0, hz1, hz2⟩ := info_parts infoStr6
  rcases h.2 with ⟨rfl, rfl⟩ | ⟨g, cap, cur, rfl, _⟩
  · have hx : ((xs.map .string : List Value)) = ([] : List Value) := List.eq_nil_of_length_eq_zero (by simpa using h.1)
    have HX := Lib.hid hx
    clear hx h
    have hnn : ∀ w, (binOp .eql 24 (.slice none 0 0) (.slice none 0 0)).run Tryz.prog w = .ok (.bool true) w := fun w => Lib.run_eql_slice_nil w 24 9 none 0 0 0 0 Tryz.underlying24
    go_enter Tryz.func50, Tryz.ntmps50
    go_wp2_with fail
    go_ret
    exact ⟨⟨_, rfl, by rw [HX.out]; exact World.ownsRow_nil _ _ _ _⟩, Below.refl _ _⟩
  · have HG := Lib.hid h
    have hnn : ∀ w, (binOp .eql 24 (.slice (some ⟨g, 0, none⟩) n cap) (.slice none 0 0)).run Tryz.prog w = .ok (.bool false) w := fun w => Lib.run_eql_slice_nil w 24 9 (some ⟨g, 0, none⟩) n cap 0 0 Tryz.underlying24
    have hcs : ∀ j u, ((xs.map .string : List Value))[j]? = some u → (w.alloc (.cells #[] 9)).cell? ((⟨g, 0, none⟩ : Addr).add j) = some u := fun j u hu => (World.ownsRow.alloc h _).cells (g := g) rfl j u hu
    have HCS := Lib.hid hcs
    have HL := Lib.hid h.1
    have HONE := Lib.hid (show ∀ u ∈ ((xs.map .string : List Value)), u.oneCell' = true from by intro u hu; obtain ⟨x, _, rfl⟩ := List.mem_map.1 hu; rfl)
    clear h hcs
    go_enter Tryz.func50, Tryz.ntmps50
    go_wp2_with (first
      | (at_builtin; refine wpList_append_own_wide _ rfl _ _ 24 rfl w.heap.size 9 i0 (.string ⟨#[]⟩) 1 16 Tryz.underlying24 hi hz0 hz1 hz2 rfl (by decide) _ 0 [] rfl (World.ownsRow_lit w #[] 0 (Nat.le_refl _) (by decide) rfl) ⟨g, 0, none⟩ n cap ((xs.map .string : List Value)) rfl HL.out HCS.out HONE.out (by unfold maxLen; omega) (by omega) (by simp) ?_; intro v' w8 own8 grow8 nil8)
      | fail)
    have hb8 : Below w.heap.size w w8 := below_own ((Below.refl _ _).alloc (Nat.le_refl _) _) (World.ownsRow_lit (e := 9) (size := 1) w #[] 0 (Nat.le_refl _) (by decide) rfl) grow8 (Nat.le_refl _) (by simp)
    rw [Nat.zero_add, List.nil_append] at own8
    have OWN := Lib.hid own8
    obtain ⟨p, c', hv⟩ := own_shape own8
    subst hv
    clear own8 grow8 nil8
    go_ret
    exact ⟨⟨_, rfl, OWN.out⟩, hb8⟩
set_option maxHeartbeats 1000000 in
theorem clonePuts_walk (v : Value) (n : Nat) (xs : List (Int × ByteArray)) (w : World) (h : w.ownsRow 0 129 2 v n (flatP xs)) (hn : n ≤ 4096) :
    Calls Tryz.prog 51 #[v] w fun e w' => (∃ v', e = .returned v' ∧ w'.ownsRow w.heap.size 129 2 v' n (flatP xs)) ∧ Below w.heap.size w w' := by
  obtain ⟨i0, hi, hz0, hz1, hz2⟩ := info_parts infoPut6
  rcases h.2 with ⟨rfl, rfl⟩ | ⟨g, cap, cur, rfl, _⟩
  · have hx : (flatP xs) = ([] : List Value) := List.eq_nil_of_length_eq_zero (by simpa using h.1)
    have HX := Lib.hid hx
    clear hx h
    have hnn : ∀ w, (binOp .eql 31 (.slice none 0 0) (.slice none 0 0)).run Tryz.prog w = .ok (.bool true) w := fun w => Lib.run_eql_slice_nil w 31 129 none 0 0 0 0 Tryz.underlying31
    go_enter Tryz.func51, Tryz.ntmps51
    go_wp2_with fail
    go_ret
    exact ⟨⟨_, rfl, by rw [HX.out]; exact World.ownsRow_nil _ _ _ _⟩, Below.refl _ _⟩
  · have HG := Lib.hid h
    have hnn : ∀ w, (binOp .eql 31 (.slice (some ⟨g, 0, none⟩) n cap) (.slice none 0 0)).run Tryz.prog w = .ok (.bool false) w := fun w => Lib.run_eql_slice_nil w 31 129 (some ⟨g, 0, none⟩) n cap 0 0 Tryz.underlying31
    have hcs : ∀ j u, (flatP xs)[j]? = some u → (w.alloc (.cells #[] 129)).cell? ((⟨g, 0, none⟩ : Addr).add j) = some u := fun j u hu => (World.ownsRow.alloc h _).cells (g := g) rfl j u hu
    have HCS := Lib.hid hcs
    have HL := Lib.hid h.1
    have HONE := Lib.hid (show ∀ u ∈ (flatP xs), u.oneCell' = true from by intro u hu; obtain ⟨p, _, hp⟩ := List.mem_flatMap.1 hu; simp [putCells] at hp; rcases hp with rfl | rfl <;> rfl)
    clear h hcs
    go_enter Tryz.func51, Tryz.ntmps51
    go_wp2_with (first
      | (at_builtin; refine wpList_append_own_wide _ rfl _ _ 31 rfl w.heap.size 129 i0 (.agg #[.int .i64 0, .string ⟨#[]⟩]) 2 24 Tryz.underlying31 hi hz0 hz1 hz2 rfl (by decide) _ 0 [] rfl (World.ownsRow_lit w #[] 0 (Nat.le_refl _) (by decide) rfl) ⟨g, 0, none⟩ n cap (flatP xs) rfl HL.out HCS.out HONE.out (by unfold maxLen; omega) (by omega) (by simp) ?_; intro v' w8 own8 grow8 nil8)
      | fail)
    have hb8 : Below w.heap.size w w8 := below_own ((Below.refl _ _).alloc (Nat.le_refl _) _) (World.ownsRow_lit (e := 129) (size := 2) w #[] 0 (Nat.le_refl _) (by decide) rfl) grow8 (Nat.le_refl _) (by simp)
    rw [Nat.zero_add, List.nil_append] at own8
    have OWN := Lib.hid own8
    obtain ⟨p, c', hv⟩ := own_shape own8
    subst hv
    clear own8 grow8 nil8
    go_ret
    exact ⟨⟨_, rfl, OWN.out⟩, hb8⟩
theorem sizeImg {a b : Value} : (Tryz.prog.info? 33).map (·.size) = some [a, b].length := by kernel_rfl
theorem zeroImg (w : World) : Sem.run Tryz.prog (zeroValue 33) w = .ok (.agg ([.slice none 0 0, .slice none 0 0] : List Value).toArray) w := by kernel_rfl
set_option maxHeartbeats 2000000 in
theorem dseize_walk (db : Nat) (d : DiskD) (w : World) (h : DiskAt w db d) (hc : d.cs.length ≤ 4096) (hb : d.bs.length ≤ 1024) :
    Calls Tryz.prog 17 #[.pointer (some ⟨db, 0, none⟩)] w fun e w' => (∃ v1 v2, e = .returned (.agg #[v1, v2]) ∧ w'.ownsRow w.heap.size 9 1 v1 d.bs.length (d.bs.map .string) ∧ w'.ownsRow w.heap.size 129 2 v2 d.cs.length (flatP d.cs)) ∧ Below w.heap.size w w' := by
  have HH := Lib.hid h
  clear h
  go_enter Tryz.func17, Tryz.ntmps17
  go_wp2_with (first
    | ((with_reducible refine wpList_alloc_new 33 _ zeroImg (some 2) ?hgd ?ho ?hd ?_); (case hgd => rfl); (case ho => rfl); (case hd => rfl); (intro b2 w1 l1 B1 e1 z1))
    | fail)
  have HD1 := Lib.hid (HH.out.below (e1.mono l1))
  refine (dthere_walk db d _ HD1.out).mono ?_
  rintro e w2 ⟨rfl, rfl⟩
  obtain ⟨w2, hw2⟩ : ∃ w2, w1 = w2 := ⟨_, rfl⟩
  rw [hw2] at HD1 B1 e1 z1 ⊢
  have HDw2 := HD1
  have HB2w2 := Lib.hid B1
  have HBEw2 := Lib.hid (e1.mono l1)
  have HB2L := Lib.hid l1
  have HNE := Lib.hid (show b2 ∉ d.foot db from fun hm => by have := HH.out.lt b2 hm; omega)
  clear B1 e1 z1 l1 hw2 HD1
  go_upto_region 3 with fail
  refine wp_region_held_drew (S := fun wx => wx.cell? ⟨db, 0, none⟩ = some d.bv ∧ wx.cell? ⟨db, 1, none⟩ = some d.cv) (by kernel_rfl) (⟨HDw2.out.blk.cell (i := 0) rfl, HDw2.out.blk.cell (i := 1) rfl⟩) (fun hHeld => ?_)
  obtain ⟨wd, hwd⟩ : ∃ wd, wd = w2.drew := ⟨_, rfl⟩
  have HDwd : Hid (DiskAt wd db d) := Lib.hid (by rw [hwd]; exact HDw2.out.below (Below.refl _ _).drew)
  have HBEwd : Hid (Below w.heap.size w wd) := Lib.hid (by rw [hwd]; exact HBEw2.out.drew)
  have HB2wd : Hid (Blk wd b2 [.slice none 0 0, .slice none 0 0] 33) := Lib.hid (by rw [hwd]; exact HB2w2.out.drew)
  rw [← hwd]
  rw [← hwd] at hHeld
  clear hwd
  refine wpAnyH_take (i := 0) (v := ?_) rfl (by kernel_rfl) (by kernel_rfl) (by kernel_rfl) (fun _ _ _ h => h) (Or.inl ⟨by rfl, ?_⟩) (by assumption) ?_
  rotate_left
  · intro w hSw; (try dsimp only at hSw); go_simp; first | done | with_reducible rfl
  (try simp only [Act.put, Array.getInternal_eq_getElem, List.getElem_toArray, List.getElem_cons_succ, List.getElem_cons_zero, List.setIfInBounds_toArray, List.set_cons_zero, List.set_cons_succ])
  refine wpAnyH_take (i := 1) (v := ?_) rfl (by kernel_rfl) (by kernel_rfl) (by kernel_rfl) (fun _ _ _ h => h) (Or.inl ⟨by rfl, ?_⟩) (by assumption) ?_
  rotate_left
  · intro w hSw; (try dsimp only at hSw); go_simp; first | done | with_reducible rfl
  (try simp only [Act.put, Array.getInternal_eq_getElem, List.getElem_toArray, List.getElem_cons_succ, List.getElem_cons_zero, List.setIfInBounds_toArray, List.set_cons_zero, List.set_cons_succ])
  refine wpAnyH_take (i := 2) (v := ?_) rfl (by kernel_rfl) (by kernel_rfl) (by kernel_rfl) (fun _ _ _ h => h) (Or.inl ⟨by rfl, ?_⟩) (by assumption) ?_
  rotate_left
  · intro w hSw; (try dsimp only at hSw); go_simp; first | done | with_reducible rfl
  (try simp only [Act.put, Array.getInternal_eq_getElem, List.getElem_toArray, List.getElem_cons_succ, List.getElem_cons_zero, List.setIfInBounds_toArray, List.set_cons_zero, List.set_cons_succ])
  refine wpAnyH_take (i := 3) (v := ?_) rfl (by kernel_rfl) (by kernel_rfl) (by kernel_rfl) (fun _ _ _ h => h) (Or.inl ⟨by rfl, ?_⟩) (by assumption) ?_
  rotate_left
  · intro w hSw; (try dsimp only at hSw); go_simp; first | done | with_reducible rfl
  (try simp only [Act.put, Array.getInternal_eq_getElem, List.getElem_toArray, List.getElem_cons_succ, List.getElem_cons_zero, List.setIfInBounds_toArray, List.set_cons_zero, List.set_cons_succ])
  refine wpAnyH_take (i := 4) (v := ?_) rfl (by kernel_rfl) (by kernel_rfl) (by kernel_rfl) (fun _ _ _ h => h) (Or.inl ⟨by rfl, ?_⟩) (by assumption) ?_
  rotate_left
  · intro w hSw; (try dsimp only at hSw); go_simp; first | done | with_reducible rfl
  (try simp only [Act.put, Array.getInternal_eq_getElem, List.getElem_toArray, List.getElem_cons_succ, List.getElem_cons_zero, List.setIfInBounds_toArray, List.set_cons_zero, List.set_cons_succ])
  refine wpAnyH_take (i := 6) (v := ?_) rfl (by kernel_rfl) (by kernel_rfl) (by kernel_rfl) (fun _ _ _ h => h) (Or.inl ⟨by rfl, ?_⟩) (by assumption) ?_
  rotate_left
  · intro w hSw; (try dsimp only at hSw); go_simp; first | done | with_reducible rfl
  (try simp only [Act.put, Array.getInternal_eq_getElem, List.getElem_toArray, List.getElem_cons_succ, List.getElem_cons_zero, List.setIfInBounds_toArray, List.set_cons_zero, List.set_cons_succ])
  refine wpAnyH_take (i := 7) (v := ?_) rfl (by kernel_rfl) (by kernel_rfl) (by kernel_rfl) (fun _ _ _ h => h) (Or.inl ⟨by rfl, ?_⟩) (by assumption) ?_
  rotate_left
  · intro w hSw; (try dsimp only at hSw); go_simp; first | done | with_reducible rfl
  (try simp only [Act.put, Array.getInternal_eq_getElem, List.getElem_toArray, List.getElem_cons_succ, List.getElem_cons_zero, List.setIfInBounds_toArray, List.set_cons_zero, List.set_cons_succ])
  refine wpAnyH_take (i := 8) (v := ?_) rfl (by kernel_rfl) (by kernel_rfl) (by kernel_rfl) (fun _ _ _ h => h) (Or.inl ⟨by rfl, ?_⟩) (by assumption) ?_
  rotate_left
  · intro w hSw; (try dsimp only at hSw); go_simp; first | done | with_reducible rfl
  (try simp only [Act.put, Array.getInternal_eq_getElem, List.getElem_toArray, List.getElem_cons_succ, List.getElem_cons_zero, List.setIfInBounds_toArray, List.set_cons_zero, List.set_cons_succ])
  refine wpAnyH_take (i := 9) (v := ?_) rfl (by kernel_rfl) (by kernel_rfl) (by kernel_rfl) (fun _ _ _ h => h) (Or.inl ⟨by rfl, ?_⟩) (by assumption) ?_
  rotate_left
  · intro w hSw; (try dsimp only at hSw); go_simp; first | done | with_reducible rfl
  (try simp only [Act.put, Array.getInternal_eq_getElem, List.getElem_toArray, List.getElem_cons_succ, List.getElem_cons_zero, List.setIfInBounds_toArray, List.set_cons_zero, List.set_cons_succ])
  refine wpAnyH_take (i := 10) (v := ?_) rfl (by kernel_rfl) (by kernel_rfl) (by kernel_rfl) (fun _ _ _ h => h) (Or.inl ⟨by rfl, ?_⟩) (by assumption) ?_
  rotate_left
  · intro w hSw; (try dsimp only at hSw); go_simp; first | done | with_reducible rfl
  (try simp only [Act.put, Array.getInternal_eq_getElem, List.getElem_toArray, List.getElem_cons_succ, List.getElem_cons_zero, List.setIfInBounds_toArray, List.set_cons_zero, List.set_cons_succ])
  refine wpAnyH_ready (rs := [5]) (by kernel_rfl) (by simp) ?_
  refine AllReadyH.cons rfl (fun K hK => ?_) AllReadyH.nil
  go_simp
  refine (cloneStrs_walk d.bv d.bs.length d.bs _ HDwd.out.rb (by omega)).mono ?_
  rintro e wa ⟨⟨v1, he1, own1⟩, hb1⟩
  obtain ⟨p1, c1, rfl⟩ := own_shape own1
  subst he1
  have HDwa := Lib.hid (HDwd.out.below hb1)
  have HBEwa := Lib.hid (HBEwd.out.trans (hb1.mono HBEwd.out.size))
  have HB2wa := Lib.hid (HB2wd.out.below hb1 HB2wd.out.lt)
  have OW1 := Lib.hid (own_base own1 (show b2 + 1 ≤ wd.heap.size from HB2wd.out.lt))
  skip
  clear hb1 own1
  (try go_wp2_with fail)
  refine hK.out _ _ (⟨HDwa.out.blk.cell (i := 0) rfl, HDwa.out.blk.cell (i := 1) rfl⟩) (fun hHeld2 => ?_)
  clear hK K hHeld
  have hHeld := hHeld2
  clear hHeld2
  (try simp only [Act.put, Array.getInternal_eq_getElem, List.getElem_toArray, List.getElem_cons_succ, List.getElem_cons_zero, List.setIfInBounds_toArray, List.set_cons_zero, List.set_cons_succ])
  refine wpAnyH_ready (rs := [11]) (by kernel_rfl) (by simp) ?_
  refine AllReadyH.cons rfl (fun K hK => ?_) AllReadyH.nil
  go_simp
  refine (clonePuts_walk d.cv d.cs.length d.cs _ HDwa.out.rc (by omega)).mono ?_
  rintro e wb ⟨⟨v2, he2, own2⟩, hb2⟩
  obtain ⟨p2, c2, rfl⟩ := own_shape own2
  subst he2
  have HDwb := Lib.hid (HDwa.out.below hb2)
  have HBEwb := Lib.hid (HBEwa.out.trans (hb2.mono HBEwa.out.size))
  have HB2wb := Lib.hid (HB2wa.out.below hb2 HB2wa.out.lt)
  have OW2 := Lib.hid (own_base own2 (show b2 + 1 ≤ wa.heap.size from HB2wa.out.lt))
  have OW1 := Lib.hid (own_below hb2 OW1.out)
  clear hb2 own2
  (try go_wp2_with fail)
  refine hK.out _ _ (⟨HDwb.out.blk.cell (i := 0) rfl, HDwb.out.blk.cell (i := 1) rfl⟩) (fun hHeld2 => ?_)
  clear hK K hHeld
  have hHeld := hHeld2
  clear hHeld2
  (try simp only [Act.put, Array.getInternal_eq_getElem, List.getElem_toArray, List.getElem_cons_succ, List.getElem_cons_zero, List.setIfInBounds_toArray, List.set_cons_zero, List.set_cons_succ])
  refine wpAnyH_take (i := 12) (v := ?_) rfl (by kernel_rfl) (by kernel_rfl) (by kernel_rfl) (fun _ _ _ h => h) (Or.inl ⟨by rfl, ?_⟩) (by assumption) ?_
  rotate_left
  · intro w hSw; (try dsimp only at hSw); go_simp; first | done | with_reducible rfl
  (try simp only [Act.put, Array.getInternal_eq_getElem, List.getElem_toArray, List.getElem_cons_succ, List.getElem_cons_zero, List.setIfInBounds_toArray, List.set_cons_zero, List.set_cons_succ])
  refine wpAnyH_ready (rs := [13]) (by kernel_rfl) (by simp) ?_
  refine AllReadyH.cons rfl (fun K hK => ?_) AllReadyH.nil
  refine wp_store_all 33 (.tmp 2) (.tmp 19) b2 [.slice none 0 0, .slice none 0 0] [.slice p1 d.bs.length c1, .slice p2 d.cs.length c2] 33 HB2wb.out rfl sizeImg (by intro u hu; simp at hu; rcases hu with rfl | rfl <;> rfl) rfl rfl rfl ?_
  intro wc Bc oc
  have hbc : Below w.heap.size w wc := oc.below HBEwb.out HB2L.out
  have OC1 := Lib.hid (own_only OW1.out oc (Nat.lt_succ_self b2))
  have OC2 := Lib.hid (own_only OW2.out oc (Nat.lt_succ_self b2))
  have HDc := Lib.hid (HDwb.out.turned (oc.turned (S := [b2]) (by simp)) (fun x hx hm => by simp at hm; subst hm; exact HNE.out hx))
  have r0 := Bc.cell (i := 0) rfl
  have r1 := Bc.cell (i := 1) rfl
  refine hK.out _ _ (⟨HDc.out.blk.cell (i := 0) rfl, HDc.out.blk.cell (i := 1) rfl⟩) (fun hHeld2 => ?_)
  clear hK K hHeld
  have hHeld := hHeld2
  clear hHeld2
  (try simp only [Act.put, Array.getInternal_eq_getElem, List.getElem_toArray, List.getElem_cons_succ, List.getElem_cons_zero, List.setIfInBounds_toArray, List.set_cons_zero, List.set_cons_succ])
  refine wpAnyH_done (by kernel_rfl) ?_ _
  go_wp2_with fail
  (try simp only [Exit.inBlock, Exit.then]); refine bodyPost_ret (results_cell1v rfl _ _ Bc.range rfl Tryz.underlying33 rfl sizeImg) rfl ⟨⟨_, _, rfl, own_base OC1.out (Nat.le_succ_of_le HB2L.out), own_base OC2.out (Nat.le_succ_of_le HB2L.out)⟩, hbc⟩
end Go.Proofs.YtppdboadjefieaaGreat
