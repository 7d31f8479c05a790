/- Walk of the documents' Said of a message (chapter 27): its bytes without its tag. -/
import Derived.Test.YtidekfbgjghcjaaGreatG18
import Derived.Test.YtidekfbgjghcjaaGreatWireR
import Derived.Test.YtidekfbgjghcjaaGreatG37
import Derived.Deep.RegionHeld3
import Derived.Deep.MidRow
namespace Go.Proofs.YtidekfbgjghcjaaGreat
set_option linter.unusedSimpArgs false
set_option linter.unusedVariables false
open Go Go.RowKit

theorem leafL_len {x : LeafD} (h : leafOk x = true) : (leafL x).length ≤ 35 := by
  have := leafF_len (leafF_w x []) (fun _ => by
    unfold leafOk at h
    simp only [Bool.or_eq_true, decide_eq_true_eq] at h
    rcases h with h | h
    · rw [h]; exact Nat.zero_le _
    · simp only [leafSaid, Bool.and_eq_true, decide_eq_true_eq] at h; omega)
  simpa using this
theorem pathL_len {xs : List ByteArray} (hl : xs.length ≤ 12) (ha : all32 xs = true) : (pathL xs).length ≤ 8200 := by
  have := (pathF_len (pathF_w xs []) (fun _ => hl) (fun _ x hx => by rw [all32_mem ha x hx]; exact Nat.le_refl _)).1
  simpa using this
set_option maxRecDepth 100000 in
set_option maxHeartbeats 16000000 in
theorem rsaid27_walk (m : MsgD) (u l : Value) (w : World) (hu : PRow w u m.told.up) (hl : PRow w l m.told.left) (hok : msgOk m = true) :
    Calls Tryz.prog 15 #[m.v u l] w fun e w' => ∃ s, e = .returned (.string s) ∧ Txt s (msgSaid m) ∧ Below w.heap.size w w' := by
  have RU : Hid (∀ w', Below w.heap.size w w' → PRow w' u m.told.up ∧ PRow w' l m.told.left) := Lib.hid (fun w' hb => ⟨hu.below hb (Nat.le_refl _), hl.below hb (Nat.le_refl _)⟩)
  have hsu := hu.shape
  have hsl := hl.shape
  obtain ⟨ua, uc, hue⟩ := hsu
  obtain ⟨la, lc, hle⟩ := hsl
  subst hue hle
  clear hu hl
  have HM := Lib.hid (msgOk_facts hok)
  have HR := Lib.hid (show rsaysOk m = true by have h := rightM_eq m; rw [hok] at h; simp only [rightM, Bool.and_eq_true] at h; exact h.2)
  have HT := Lib.hid (show m.kind = 8 → toldOk m.told = true by intro h8; have := (msgOk_facts hok).says; simpa [saysOk, h8] using this)
  have hk := saysOk_kind (msgOk_facts hok).says
  have N1 : NumIn m.kind 1 := .of1 ⟨by omega, by omega⟩
  have hns : m.nonce.size ≤ 32 := (msgOk_facts hok).nonce
  have HK := Lib.hid hk
  clear hok hk
  go_enter Tryz.func15, Tryz.ntmps15
  go_wp2_with ((with_reducible refine wpList_box_new 39 (.tmp 0) (m.cells (.slice ua m.told.up.length uc) (.slice la m.told.left.length lc)) (some 1) ?hgd ?ho ?hd ?hx ?_); (case hgd | ho | hd | hx => rfl); (intro b w0 l0 B0 e0 z0))
  have HB := Lib.hid (show Below w.heap.size w w0.drew from (e0.mono l0).drew)
  have HX := Lib.hid (show Blk w0.drew b (m.cells (.slice ua m.told.up.length uc) (.slice la m.told.left.length lc)) 39 from B0.drew)
  have HP := HX
  clear e0 l0 z0 B0
  have hS0 : (fun w' => w'.rangeAt b 0 (m.cells (.slice ua m.told.up.length uc) (.slice la m.told.left.length lc)) ∧ w'.cell? ⟨b, 0, none⟩ = some (.int .i64 m.kind) ∧ w'.cell? ⟨b, 1, none⟩ = some (.int .i64 m.epoch) ∧ w'.cell? ⟨b, 2, none⟩ = some (.int .i64 m.seq) ∧ w'.cell? ⟨b, 3, none⟩ = some (.string m.nonce) ∧ w'.cell? ⟨b, 5, none⟩ = some (.string m.last) ∧ w'.cell? ⟨b, 6, none⟩ = some (.int .i64 m.askE) ∧ w'.cell? ⟨b, 7, none⟩ = some (.int .i64 m.askL) ∧ w'.cell? ⟨b, 16, none⟩ = some (.string m.sld.tag)) w0.drew := ⟨HX.out.range, HX.out.cell (i := 0) rfl, HX.out.cell (i := 1) rfl, HX.out.cell (i := 2) rfl, HX.out.cell (i := 3) rfl, HX.out.cell (i := 5) rfl, HX.out.cell (i := 6) rfl, HX.out.cell (i := 7) rfl, HX.out.cell (i := 16) rfl⟩
  refine wp_region_held_drew (S := fun w' => w'.rangeAt b 0 (m.cells (.slice ua m.told.up.length uc) (.slice la m.told.left.length lc)) ∧ w'.cell? ⟨b, 0, none⟩ = some (.int .i64 m.kind) ∧ w'.cell? ⟨b, 1, none⟩ = some (.int .i64 m.epoch) ∧ w'.cell? ⟨b, 2, none⟩ = some (.int .i64 m.seq) ∧ w'.cell? ⟨b, 3, none⟩ = some (.string m.nonce) ∧ w'.cell? ⟨b, 5, none⟩ = some (.string m.last) ∧ w'.cell? ⟨b, 6, none⟩ = some (.int .i64 m.askE) ∧ w'.cell? ⟨b, 7, none⟩ = some (.int .i64 m.askL) ∧ w'.cell? ⟨b, 16, none⟩ = some (.string m.sld.tag)) (by kernel_rfl) (hS0) (fun hHeld => ?_)
  clear hS0
  refine wpAnyH_take (i := 0) (v := ?_) rfl (by kernel_rfl) (by kernel_rfl) (by kernel_rfl) (fun _ _ _ h => h) (Or.inl ⟨by rfl, ?_⟩) (by assumption) ?_
  rotate_left
  · intro w hSw; (try dsimp only at hSw); go_simp; first | done | with_reducible rfl
  (try simp only [Act.put, Array.getInternal_eq_getElem, List.getElem_toArray, List.getElem_cons_succ, List.getElem_cons_zero, List.setIfInBounds_toArray, List.set_cons_zero, List.set_cons_succ])
  refine wpAnyH_take (i := 1) (v := ?_) rfl (by kernel_rfl) (by kernel_rfl) (by kernel_rfl) (fun _ _ _ h => h) (Or.inl ⟨by rfl, ?_⟩) (by assumption) ?_
  rotate_left
  · intro w hSw; (try dsimp only at hSw); go_simp; first | done | with_reducible rfl
  (try simp only [Act.put, Array.getInternal_eq_getElem, List.getElem_toArray, List.getElem_cons_succ, List.getElem_cons_zero, List.setIfInBounds_toArray, List.set_cons_zero, List.set_cons_succ])
  refine wpAnyH_take (i := 3) (v := ?_) rfl (by kernel_rfl) (by kernel_rfl) (by kernel_rfl) (fun _ _ _ h => h) (Or.inl ⟨by rfl, ?_⟩) (by assumption) ?_
  rotate_left
  · intro w hSw; (try dsimp only at hSw); go_simp; first | done | with_reducible rfl
  (try simp only [Act.put, Array.getInternal_eq_getElem, List.getElem_toArray, List.getElem_cons_succ, List.getElem_cons_zero, List.setIfInBounds_toArray, List.set_cons_zero, List.set_cons_succ])
  refine wpAnyH_take (i := 4) (v := ?_) rfl (by kernel_rfl) (by kernel_rfl) (by kernel_rfl) (fun _ _ _ h => h) (Or.inl ⟨by rfl, ?_⟩) (by assumption) ?_
  rotate_left
  · intro w hSw; (try dsimp only at hSw); go_simp; first | done | with_reducible rfl
  (try simp only [Act.put, Array.getInternal_eq_getElem, List.getElem_toArray, List.getElem_cons_succ, List.getElem_cons_zero, List.setIfInBounds_toArray, List.set_cons_zero, List.set_cons_succ])
  refine wpAnyH_ready (rs := [2]) (by kernel_rfl) (by simp) ?_
  refine AllReadyH.cons rfl (fun K hK => ?_) AllReadyH.nil
  go_simp
  refine (num1_walk m.kind _ N1).mono ?_
  rintro e w1 ⟨sk, rfl, t1, hb1⟩
  have HB1 := Lib.hid (Below.trans (HB.out) (hb1.mono (Below.size (HB.out))))
  have HX1 := Lib.hid (Blk.below (HX.out) hb1 (Blk.lt (HX.out)))
  have HP1 := Lib.hid (Blk.below (HP.out) hb1 (Blk.lt (HP.out)))
  have TT1 := Lib.hid t1
  have hk1 : sk.size ≤ 1 := by rw [TT1.out.size, beBytes_length]; exact Nat.le_refl _
  have hs1 : ¬ 9223372036854775807 < sk.size + m.nonce.size := by omega
  clear hb1 t1
  (try go_wp2_with fail)
  refine hK.out _ _ (⟨HX1.out.range, HX1.out.cell (i := 0) rfl, HX1.out.cell (i := 1) rfl, HX1.out.cell (i := 2) rfl, HX1.out.cell (i := 3) rfl, HX1.out.cell (i := 5) rfl, HX1.out.cell (i := 6) rfl, HX1.out.cell (i := 7) rfl, HX1.out.cell (i := 16) rfl⟩) (fun hHeld2 => ?_)
  clear hK K hHeld
  have hHeld := hHeld2
  clear hHeld2
  (try simp only [Act.put, Array.getInternal_eq_getElem, List.getElem_toArray, List.getElem_cons_succ, List.getElem_cons_zero, List.setIfInBounds_toArray, List.set_cons_zero, List.set_cons_succ])
  refine wpAnyH_take (i := 5) (v := ?_) rfl (by kernel_rfl) (by kernel_rfl) (by kernel_rfl) (fun _ _ _ h => h) (Or.inl ⟨by rfl, ?_⟩) (by assumption) ?_
  rotate_left
  · intro w hSw; (try dsimp only at hSw); go_simp; first | done | with_reducible rfl
  (try simp only [Act.put, Array.getInternal_eq_getElem, List.getElem_toArray, List.getElem_cons_succ, List.getElem_cons_zero, List.setIfInBounds_toArray, List.set_cons_zero, List.set_cons_succ])
  refine wpAnyH_take (i := 6) (v := ?_) rfl (by kernel_rfl) (by kernel_rfl) (by kernel_rfl) (fun _ _ _ h => h) (Or.inl ⟨by rfl, ?_⟩) (by assumption) ?_
  rotate_left
  · intro w hSw; (try dsimp only at hSw); go_simp; first | done | with_reducible rfl
  (try simp only [Act.put, Array.getInternal_eq_getElem, List.getElem_toArray, List.getElem_cons_succ, List.getElem_cons_zero, List.setIfInBounds_toArray, List.set_cons_zero, List.set_cons_succ])
  refine wpAnyH_done (by kernel_rfl) ?_ _
  go_upto_region 3 with (first
    | ((with_reducible refine wpList_load_met 35 (.tmp 15) b 17 (m.told.cells (.slice ua m.told.up.length uc) (.slice la m.told.left.length lc)) _ (some 16) ((HX1.out.ext (m.toldAt (.slice ua m.told.up.length uc) (.slice la m.told.left.length lc))).part (off := 17) rfl) Tryz.underlying35 rfl rsizeTold' ?hg ?ho ?hds ?hx ?_); (case ho | hg | hds | hx => rfl))
    | ((with_reducible refine wpList_alloc_new 35 tzero zeroTold (some 4) ?hgd ?ho ?hd ?_); (case hgd | ho | hd => rfl); (intro p w3 l3 B3 e3 z3); have X3 := HX1.out.below e3 (Nat.lt_of_lt_of_le HX1.out.lt l3))
    | ((with_reducible refine wpList_store_new 35 (.tmp 4) (.tmp 16) p tzero (m.told.cells (.slice ua m.told.up.length uc) (.slice la m.told.left.length lc)) 35 B3 rfl rsizeTold' (tcells_one ⟨_, _, rfl⟩ ⟨_, _, rfl⟩) ?hgd ?ho ?hx ?hy ?_); (case hgd | ho | hx | hy => rfl); (intro w4 B4 o4); have X4 := o4.blk X3 (by have := HX1.out.lt; omega); have HB4 := o4.below (HB1.out.trans (e3.mono (Nat.le_trans HB1.out.size l3))) (Nat.le_trans HB1.out.size l3))
    | fail)
  clear HX HB HP HX1 HB1 HP1
  (try clear hHeld)
  have BX := Lib.hid X4
  have BP := Lib.hid B4
  have HB := Lib.hid HB4
  have j0 := X4.cell (i := 0) rfl; have j1 := X4.cell (i := 1) rfl; have j2 := X4.cell (i := 2) rfl; have j3 := X4.cell (i := 3) rfl; have j4 := X4.cell (i := 4) rfl; have j5 := X4.cell (i := 5) rfl; have j6 := X4.cell (i := 6) rfl; have j7 := X4.cell (i := 7) rfl; have j16 := X4.cell (i := 16) rfl
  have t0 := B4.cell (i := 0) rfl; have t1 := B4.cell (i := 1) rfl; have t2 := B4.cell (i := 2) rfl; have t3 := B4.cell (i := 3) rfl; have t4 := B4.cell (i := 4) rfl; have t5 := B4.cell (i := 5) rfl; have t6 := B4.cell (i := 6) rfl; have t7 := B4.cell (i := 7) rfl; have t8 := B4.cell (i := 8) rfl; have t9 := B4.cell (i := 9) rfl; have t10 := B4.cell (i := 10) rfl; have t11 := B4.cell (i := 11) rfl; have t12 := B4.cell (i := 12) rfl
  clear X4 B4 HB4 X3 B3 o4 e3 l3 z3
  have TS := Lib.hid (TT1.out.append (Txt.self m.nonce))
  by_cases k1 : m.kind = 1
  · have j0' : w4.cell? ⟨b, 0, none⟩ = some (.int .i64 1) := by rw [← k1]; exact j0
    clear j0
    have j0 := j0'
    clear j0'
    have HR2 := HR.out
    unfold rsaysOk at HR2
    rw [k1] at HR2
    have HKK := Lib.hid k1
    clear  k1
    clear HR2
    go_wp2_with fail
    go_ret
    refine ⟨_, rfl, ?_, HB.out⟩
    have hz : restL m = [] := by unfold restL; rw [HKK.out]; rfl
    unfold msgSaid
    rw [hz]
    exact (TS.out).cast (by simp [List.append_assoc])
  have n1 : (m.kind == 1) = false := by simp [k1]
  by_cases k2 : m.kind = 2
  · have j0' : w4.cell? ⟨b, 0, none⟩ = some (.int .i64 2) := by rw [← k2]; exact j0
    clear j0
    have j0 := j0'
    clear j0'
    have HR2 := HR.out
    unfold rsaysOk at HR2
    rw [k2] at HR2
    have HKK := Lib.hid k2
    clear n1 k2
    simp at HR2
    have he := epochOk_facts HR2
    have N4 : NumIn m.epoch 4 := .of4 he
    clear HR2 he
    go_wp2_with fail
    refine (num4_walk m.epoch _ N4).mono ?_
    rintro e w5 ⟨r5, rfl, t5, hb5⟩
    have HB5 := Lib.hid (HB.out.trans (hb5.mono HB.out.size))
    have hr5 : r5.size ≤ 4 := by rw [t5.size, beBytes_length]; exact Nat.le_refl _
    have TR5 := Lib.hid t5
    clear t5 hb5
    go_wp2_with fail
    go_ret
    refine ⟨_, rfl, ?_, HB5.out⟩
    have hz : restL m = beBytes 4 m.epoch.toNat := by unfold restL; rw [HKK.out]; rfl
    unfold msgSaid
    rw [hz]
    exact (TS.out.append TR5.out).cast (by simp [List.append_assoc])
  have n2 : (m.kind == 2) = false := by simp [k2]
  by_cases k3 : m.kind = 3
  · have j0' : w4.cell? ⟨b, 0, none⟩ = some (.int .i64 3) := by rw [← k3]; exact j0
    clear j0
    have j0 := j0'
    clear j0'
    have HR2 := HR.out
    unfold rsaysOk at HR2
    rw [k3] at HR2
    have HKK := Lib.hid k3
    clear n1 n2 k3
    simp at HR2
    have HR2 := HR2.1
    have he := epochOk_facts HR2
    have N4 : NumIn m.epoch 4 := .of4 he
    clear HR2 he
    go_wp2_with fail
    refine (num4_walk m.epoch _ N4).mono ?_
    rintro e w5 ⟨r5, rfl, t5, hb5⟩
    have HB5 := Lib.hid (HB.out.trans (hb5.mono HB.out.size))
    have hr5 : r5.size ≤ 4 := by rw [t5.size, beBytes_length]; exact Nat.le_refl _
    have TR5 := Lib.hid t5
    clear t5 hb5
    go_wp2_with fail
    go_ret
    refine ⟨_, rfl, ?_, HB5.out⟩
    have hz : restL m = beBytes 4 m.epoch.toNat := by unfold restL; rw [HKK.out]; rfl
    unfold msgSaid
    rw [hz]
    exact (TS.out.append TR5.out).cast (by simp [List.append_assoc])
  have n3 : (m.kind == 3) = false := by simp [k3]
  by_cases k4 : m.kind = 4
  · have j0' : w4.cell? ⟨b, 0, none⟩ = some (.int .i64 4) := by rw [← k4]; exact j0
    clear j0
    have j0 := j0'
    clear j0'
    have HR2 := HR.out
    unfold rsaysOk at HR2
    rw [k4] at HR2
    have HKK := Lib.hid k4
    clear n1 n2 n3 k4
    simp at HR2
    have he := epochOk_facts HR2.1.1.1
    have N4 : NumIn m.epoch 4 := .of4 he
    have N5 : NumIn m.seq 4 := .of4 ⟨HR2.2.1, by omega⟩
    have hls : m.last.size ≤ 32 := by omega
    clear HR2 he
    go_wp2_with fail
    have HBd := Lib.hid (HB.out.drew)
    have HXd := Lib.hid (BX.out.drew)
    have HPd := Lib.hid (BP.out.drew)
    have hS0 : (fun w' => w'.rangeAt b 0 (m.cells (.slice ua m.told.up.length uc) (.slice la m.told.left.length lc)) ∧ w'.cell? ⟨b, 0, none⟩ = some (.int .i64 m.kind) ∧ w'.cell? ⟨b, 1, none⟩ = some (.int .i64 m.epoch) ∧ w'.cell? ⟨b, 2, none⟩ = some (.int .i64 m.seq) ∧ w'.cell? ⟨b, 3, none⟩ = some (.string m.nonce) ∧ w'.cell? ⟨b, 5, none⟩ = some (.string m.last) ∧ w'.cell? ⟨b, 6, none⟩ = some (.int .i64 m.askE) ∧ w'.cell? ⟨b, 7, none⟩ = some (.int .i64 m.askL) ∧ w'.cell? ⟨b, 16, none⟩ = some (.string m.sld.tag)) w4.drew := ⟨HXd.out.range, HXd.out.cell (i := 0) rfl, HXd.out.cell (i := 1) rfl, HXd.out.cell (i := 2) rfl, HXd.out.cell (i := 3) rfl, HXd.out.cell (i := 5) rfl, HXd.out.cell (i := 6) rfl, HXd.out.cell (i := 7) rfl, HXd.out.cell (i := 16) rfl⟩
    refine wp_region_held_drew (S := fun w' => w'.rangeAt b 0 (m.cells (.slice ua m.told.up.length uc) (.slice la m.told.left.length lc)) ∧ w'.cell? ⟨b, 0, none⟩ = some (.int .i64 m.kind) ∧ w'.cell? ⟨b, 1, none⟩ = some (.int .i64 m.epoch) ∧ w'.cell? ⟨b, 2, none⟩ = some (.int .i64 m.seq) ∧ w'.cell? ⟨b, 3, none⟩ = some (.string m.nonce) ∧ w'.cell? ⟨b, 5, none⟩ = some (.string m.last) ∧ w'.cell? ⟨b, 6, none⟩ = some (.int .i64 m.askE) ∧ w'.cell? ⟨b, 7, none⟩ = some (.int .i64 m.askL) ∧ w'.cell? ⟨b, 16, none⟩ = some (.string m.sld.tag)) (by kernel_rfl) (hS0) (fun hHeld => ?_)
    clear hS0
    refine wpAnyH_take (i := 0) (v := ?_) rfl (by kernel_rfl) (by kernel_rfl) (by kernel_rfl) (fun _ _ _ h => h) (Or.inl ⟨by rfl, ?_⟩) (by assumption) ?_
    rotate_left
    · intro w hSw; (try dsimp only at hSw); go_simp; first | done | with_reducible rfl
    (try simp only [Act.put, Array.getInternal_eq_getElem, List.getElem_toArray, List.getElem_cons_succ, List.getElem_cons_zero, List.setIfInBounds_toArray, List.set_cons_zero, List.set_cons_succ])
    refine wpAnyH_take (i := 1) (v := ?_) rfl (by kernel_rfl) (by kernel_rfl) (by kernel_rfl) (fun _ _ _ h => h) (Or.inl ⟨by rfl, ?_⟩) (by assumption) ?_
    rotate_left
    · intro w hSw; (try dsimp only at hSw); go_simp; first | done | with_reducible rfl
    (try simp only [Act.put, Array.getInternal_eq_getElem, List.getElem_toArray, List.getElem_cons_succ, List.getElem_cons_zero, List.setIfInBounds_toArray, List.set_cons_zero, List.set_cons_succ])
    refine wpAnyH_take (i := 2) (v := ?_) rfl (by kernel_rfl) (by kernel_rfl) (by kernel_rfl) (fun _ _ _ h => h) (Or.inl ⟨by rfl, ?_⟩) (by assumption) ?_
    rotate_left
    · intro w hSw; (try dsimp only at hSw); go_simp; first | done | with_reducible rfl
    (try simp only [Act.put, Array.getInternal_eq_getElem, List.getElem_toArray, List.getElem_cons_succ, List.getElem_cons_zero, List.setIfInBounds_toArray, List.set_cons_zero, List.set_cons_succ])
    refine wpAnyH_take (i := 5) (v := ?_) rfl (by kernel_rfl) (by kernel_rfl) (by kernel_rfl) (fun _ _ _ h => h) (Or.inl ⟨by rfl, ?_⟩) (by assumption) ?_
    rotate_left
    · intro w hSw; (try dsimp only at hSw); go_simp; first | done | with_reducible rfl
    (try simp only [Act.put, Array.getInternal_eq_getElem, List.getElem_toArray, List.getElem_cons_succ, List.getElem_cons_zero, List.setIfInBounds_toArray, List.set_cons_zero, List.set_cons_succ])
    refine wpAnyH_take (i := 6) (v := ?_) rfl (by kernel_rfl) (by kernel_rfl) (by kernel_rfl) (fun _ _ _ h => h) (Or.inl ⟨by rfl, ?_⟩) (by assumption) ?_
    rotate_left
    · intro w hSw; (try dsimp only at hSw); go_simp; first | done | with_reducible rfl
    (try simp only [Act.put, Array.getInternal_eq_getElem, List.getElem_toArray, List.getElem_cons_succ, List.getElem_cons_zero, List.setIfInBounds_toArray, List.set_cons_zero, List.set_cons_succ])
    refine wpAnyH_take (i := 9) (v := ?_) rfl (by kernel_rfl) (by kernel_rfl) (by kernel_rfl) (fun _ _ _ h => h) (Or.inl ⟨by rfl, ?_⟩) (by assumption) ?_
    rotate_left
    · intro w hSw; (try dsimp only at hSw); go_simp; first | done | with_reducible rfl
    (try simp only [Act.put, Array.getInternal_eq_getElem, List.getElem_toArray, List.getElem_cons_succ, List.getElem_cons_zero, List.setIfInBounds_toArray, List.set_cons_zero, List.set_cons_succ])
    refine wpAnyH_take (i := 10) (v := ?_) rfl (by kernel_rfl) (by kernel_rfl) (by kernel_rfl) (fun _ _ _ h => h) (Or.inl ⟨by rfl, ?_⟩) (by assumption) ?_
    rotate_left
    · intro w hSw; (try dsimp only at hSw); go_simp; first | done | with_reducible rfl
    (try simp only [Act.put, Array.getInternal_eq_getElem, List.getElem_toArray, List.getElem_cons_succ, List.getElem_cons_zero, List.setIfInBounds_toArray, List.set_cons_zero, List.set_cons_succ])
    refine wpAnyH_ready (rs := [3]) (by kernel_rfl) (by simp) ?_
    refine AllReadyH.cons rfl (fun K hK => ?_) AllReadyH.nil
    go_simp
    refine (num4_walk m.epoch _ N4).mono ?_
    rintro e w5 ⟨r5, rfl, t5, hb5⟩
    have HB5 := Lib.hid (HBd.out.trans (hb5.mono HBd.out.size))
    have HX5 := Lib.hid (HXd.out.below hb5 HXd.out.lt)
    have HP5 := Lib.hid (HPd.out.below hb5 HPd.out.lt)
    have hr5 : r5.size ≤ 4 := by rw [t5.size, beBytes_length]; exact Nat.le_refl _
    have TR5 := Lib.hid t5
    have g5 : ¬ 9223372036854775807 < sk.size + m.nonce.size + r5.size := by omega
    clear t5 hb5
    (try go_wp2_with fail)
    refine hK.out _ _ (⟨HX5.out.range, HX5.out.cell (i := 0) rfl, HX5.out.cell (i := 1) rfl, HX5.out.cell (i := 2) rfl, HX5.out.cell (i := 3) rfl, HX5.out.cell (i := 5) rfl, HX5.out.cell (i := 6) rfl, HX5.out.cell (i := 7) rfl, HX5.out.cell (i := 16) rfl⟩) (fun hHeld2 => ?_)
    clear hK K hHeld
    have hHeld := hHeld2
    clear hHeld2
    (try simp only [Act.put, Array.getInternal_eq_getElem, List.getElem_toArray, List.getElem_cons_succ, List.getElem_cons_zero, List.setIfInBounds_toArray, List.set_cons_zero, List.set_cons_succ])
    refine wpAnyH_take (i := 4) (v := ?_) rfl (by kernel_rfl) (by kernel_rfl) (by kernel_rfl) (fun _ _ _ h => h) (Or.inl ⟨by rfl, ?_⟩) (by assumption) ?_
    rotate_left
    · intro w hSw; (try dsimp only at hSw); go_simp; first | done | with_reducible rfl
    (try simp only [Act.put, Array.getInternal_eq_getElem, List.getElem_toArray, List.getElem_cons_succ, List.getElem_cons_zero, List.setIfInBounds_toArray, List.set_cons_zero, List.set_cons_succ])
    refine wpAnyH_ready (rs := [7]) (by kernel_rfl) (by simp) ?_
    refine AllReadyH.cons rfl (fun K hK => ?_) AllReadyH.nil
    go_simp
    refine (num4_walk m.seq _ N5).mono ?_
    rintro e w6 ⟨r6, rfl, t6, hb6⟩
    have HB6 := Lib.hid (HB5.out.trans (hb6.mono HB5.out.size))
    have HX6 := Lib.hid (HX5.out.below hb6 HX5.out.lt)
    have HP6 := Lib.hid (HP5.out.below hb6 HP5.out.lt)
    have hr6 : r6.size ≤ 4 := by rw [t6.size, beBytes_length]; exact Nat.le_refl _
    have TR6 := Lib.hid t6
    have g6 : ¬ 9223372036854775807 < sk.size + m.nonce.size + r5.size + r6.size := by omega
    have g7 : ¬ 9223372036854775807 < sk.size + m.nonce.size + r5.size + r6.size + m.last.size := by omega
    clear t6 hb6
    (try go_wp2_with fail)
    refine hK.out _ _ (⟨HX6.out.range, HX6.out.cell (i := 0) rfl, HX6.out.cell (i := 1) rfl, HX6.out.cell (i := 2) rfl, HX6.out.cell (i := 3) rfl, HX6.out.cell (i := 5) rfl, HX6.out.cell (i := 6) rfl, HX6.out.cell (i := 7) rfl, HX6.out.cell (i := 16) rfl⟩) (fun hHeld2 => ?_)
    clear hK K hHeld
    have hHeld := hHeld2
    clear hHeld2
    (try simp only [Act.put, Array.getInternal_eq_getElem, List.getElem_toArray, List.getElem_cons_succ, List.getElem_cons_zero, List.setIfInBounds_toArray, List.set_cons_zero, List.set_cons_succ])
    refine wpAnyH_take (i := 8) (v := ?_) rfl (by kernel_rfl) (by kernel_rfl) (by kernel_rfl) (fun _ _ _ h => h) (Or.inl ⟨by rfl, ?_⟩) (by assumption) ?_
    rotate_left
    · intro w hSw; (try dsimp only at hSw); go_simp; first | done | with_reducible rfl
    (try simp only [Act.put, Array.getInternal_eq_getElem, List.getElem_toArray, List.getElem_cons_succ, List.getElem_cons_zero, List.setIfInBounds_toArray, List.set_cons_zero, List.set_cons_succ])
    refine wpAnyH_take (i := 11) (v := ?_) rfl (by kernel_rfl) (by kernel_rfl) (by kernel_rfl) (fun _ _ _ h => h) (Or.inl ⟨by rfl, ?_⟩) (by assumption) ?_
    rotate_left
    · intro w hSw; (try dsimp only at hSw); go_simp; first | done | with_reducible rfl
    (try simp only [Act.put, Array.getInternal_eq_getElem, List.getElem_toArray, List.getElem_cons_succ, List.getElem_cons_zero, List.setIfInBounds_toArray, List.set_cons_zero, List.set_cons_succ])
    refine wpAnyH_take (i := 12) (v := ?_) rfl (by kernel_rfl) (by kernel_rfl) (by kernel_rfl) (fun _ _ _ h => h) (Or.inl ⟨by rfl, ?_⟩) (by assumption) ?_
    rotate_left
    · intro w hSw; (try dsimp only at hSw); go_simp; first | done | with_reducible rfl
    (try simp only [Act.put, Array.getInternal_eq_getElem, List.getElem_toArray, List.getElem_cons_succ, List.getElem_cons_zero, List.setIfInBounds_toArray, List.set_cons_zero, List.set_cons_succ])
    refine wpAnyH_done (by kernel_rfl) ?_ _
    go_wp2_with fail
    go_ret
    refine ⟨_, rfl, ?_, HB6.out⟩
    have hz : restL m = beBytes 4 m.epoch.toNat ++ beBytes 4 m.seq.toNat ++ m.last.data.toList := by unfold restL; rw [HKK.out]; rfl
    unfold msgSaid
    rw [hz]
    exact (((TS.out.append TR5.out).append TR6.out).append (Txt.self m.last)).cast (by simp [List.append_assoc])
  have n4 : (m.kind == 4) = false := by simp [k4]
  by_cases k5 : m.kind = 5
  · have j0' : w4.cell? ⟨b, 0, none⟩ = some (.int .i64 5) := by rw [← k5]; exact j0
    clear j0
    have j0 := j0'
    clear j0'
    have HR2 := HR.out
    unfold rsaysOk at HR2
    rw [k5] at HR2
    have HKK := Lib.hid k5
    clear n1 n2 n3 n4 k5
    simp at HR2
    have N4 : NumIn m.seq 4 := .of4 ⟨HR2.1, by omega⟩
    clear HR2
    go_wp2_with fail
    refine (num4_walk m.seq _ N4).mono ?_
    rintro e w5 ⟨r5, rfl, t5, hb5⟩
    have HB5 := Lib.hid (HB.out.trans (hb5.mono HB.out.size))
    have hr5 : r5.size ≤ 4 := by rw [t5.size, beBytes_length]; exact Nat.le_refl _
    have TR5 := Lib.hid t5
    clear t5 hb5
    go_wp2_with fail
    go_ret
    refine ⟨_, rfl, ?_, HB5.out⟩
    have hz : restL m = beBytes 4 m.seq.toNat := by unfold restL; rw [HKK.out]; rfl
    unfold msgSaid
    rw [hz]
    exact (TS.out.append TR5.out).cast (by simp [List.append_assoc])
  have n5 : (m.kind == 5) = false := by simp [k5]
  by_cases k6 : m.kind = 6
  · have j0' : w4.cell? ⟨b, 0, none⟩ = some (.int .i64 6) := by rw [← k6]; exact j0
    clear j0
    have j0 := j0'
    clear j0'
    have HR2 := HR.out
    unfold rsaysOk at HR2
    rw [k6] at HR2
    have HKK := Lib.hid k6
    clear n1 n2 n3 n4 n5 k6
    simp at HR2
    have N5 : NumIn m.seq 4 := .of4 ⟨HR2.1.1.1, by omega⟩
    have HRO := Lib.hid HR2.1.2
    have hts : m.sld.tag.size ≤ 32 := by omega
    have hrl := recPut_length HR2.1.2
    have hrr := recOk_facts HR2.1.2
    clear HR2
    go_wp2_with ((with_reducible refine wpList_load_met 25 (.tmp 52) b 8 m.sld.r.cells _ (some 53) ((BX.out.ext (m.recAt (.slice ua m.told.up.length uc) (.slice la m.told.left.length lc))).part (off := 8) rfl) Tryz.underlying25 rfl rsizeRec ?hg ?ho ?hds ?hx ?_); (case ho | hg | hds | hx => rfl))
    refine (rrecput_walk m.sld.r _ (by omega) (by omega) ⟨by omega, by omega⟩).mono ?_
    rintro e w5 ⟨he, hb5⟩
    rcases he with ⟨_, r5, rfl, t5⟩ | ⟨hno, _⟩
    rotate_left
    · exact absurd HRO.out (by rw [hno]; decide)
    have HB5 := Lib.hid (HB.out.trans (hb5.mono HB.out.size))
    have HX5 := Lib.hid (BX.out.below hb5 BX.out.lt)
    have HP5 := Lib.hid (BP.out.below hb5 BP.out.lt)
    have hr5 : r5.size ≤ 1000 := by rw [t5.size]; omega
    have TR5 := Lib.hid t5
    clear t5 hb5 hrl hrr
    go_wp2_with fail
    have HBd := Lib.hid (HB5.out.drew)
    have HXd := Lib.hid (HX5.out.drew)
    have HPd := Lib.hid (HP5.out.drew)
    have hS0 : (fun w' => w'.rangeAt b 0 (m.cells (.slice ua m.told.up.length uc) (.slice la m.told.left.length lc)) ∧ w'.cell? ⟨b, 0, none⟩ = some (.int .i64 m.kind) ∧ w'.cell? ⟨b, 1, none⟩ = some (.int .i64 m.epoch) ∧ w'.cell? ⟨b, 2, none⟩ = some (.int .i64 m.seq) ∧ w'.cell? ⟨b, 3, none⟩ = some (.string m.nonce) ∧ w'.cell? ⟨b, 5, none⟩ = some (.string m.last) ∧ w'.cell? ⟨b, 6, none⟩ = some (.int .i64 m.askE) ∧ w'.cell? ⟨b, 7, none⟩ = some (.int .i64 m.askL) ∧ w'.cell? ⟨b, 16, none⟩ = some (.string m.sld.tag)) w5.drew := ⟨HXd.out.range, HXd.out.cell (i := 0) rfl, HXd.out.cell (i := 1) rfl, HXd.out.cell (i := 2) rfl, HXd.out.cell (i := 3) rfl, HXd.out.cell (i := 5) rfl, HXd.out.cell (i := 6) rfl, HXd.out.cell (i := 7) rfl, HXd.out.cell (i := 16) rfl⟩
    refine wp_region_held_drew (S := fun w' => w'.rangeAt b 0 (m.cells (.slice ua m.told.up.length uc) (.slice la m.told.left.length lc)) ∧ w'.cell? ⟨b, 0, none⟩ = some (.int .i64 m.kind) ∧ w'.cell? ⟨b, 1, none⟩ = some (.int .i64 m.epoch) ∧ w'.cell? ⟨b, 2, none⟩ = some (.int .i64 m.seq) ∧ w'.cell? ⟨b, 3, none⟩ = some (.string m.nonce) ∧ w'.cell? ⟨b, 5, none⟩ = some (.string m.last) ∧ w'.cell? ⟨b, 6, none⟩ = some (.int .i64 m.askE) ∧ w'.cell? ⟨b, 7, none⟩ = some (.int .i64 m.askL) ∧ w'.cell? ⟨b, 16, none⟩ = some (.string m.sld.tag)) (by kernel_rfl) (hS0) (fun hHeld => ?_)
    clear hS0
    refine wpAnyH_take (i := 0) (v := ?_) rfl (by kernel_rfl) (by kernel_rfl) (by kernel_rfl) (fun _ _ _ h => h) (Or.inl ⟨by rfl, ?_⟩) (by assumption) ?_
    rotate_left
    · intro w hSw; (try dsimp only at hSw); go_simp; first | done | with_reducible rfl
    (try simp only [Act.put, Array.getInternal_eq_getElem, List.getElem_toArray, List.getElem_cons_succ, List.getElem_cons_zero, List.setIfInBounds_toArray, List.set_cons_zero, List.set_cons_succ])
    refine wpAnyH_take (i := 1) (v := ?_) rfl (by kernel_rfl) (by kernel_rfl) (by kernel_rfl) (fun _ _ _ h => h) (Or.inl ⟨by rfl, ?_⟩) (by assumption) ?_
    rotate_left
    · intro w hSw; (try dsimp only at hSw); go_simp; first | done | with_reducible rfl
    (try simp only [Act.put, Array.getInternal_eq_getElem, List.getElem_toArray, List.getElem_cons_succ, List.getElem_cons_zero, List.setIfInBounds_toArray, List.set_cons_zero, List.set_cons_succ])
    refine wpAnyH_take (i := 2) (v := ?_) rfl (by kernel_rfl) (by kernel_rfl) (by kernel_rfl) (fun _ _ _ h => h) (Or.inl ⟨by rfl, ?_⟩) (by assumption) ?_
    rotate_left
    · intro w hSw; (try dsimp only at hSw); go_simp; first | done | with_reducible rfl
    (try simp only [Act.put, Array.getInternal_eq_getElem, List.getElem_toArray, List.getElem_cons_succ, List.getElem_cons_zero, List.setIfInBounds_toArray, List.set_cons_zero, List.set_cons_succ])
    refine wpAnyH_take (i := 5) (v := ?_) rfl (by kernel_rfl) (by kernel_rfl) (by kernel_rfl) (fun _ _ _ h => h) (Or.inl ⟨by rfl, ?_⟩) (by assumption) ?_
    rotate_left
    · intro w hSw; (try dsimp only at hSw); go_simp; first | done | with_reducible rfl
    (try simp only [Act.put, Array.getInternal_eq_getElem, List.getElem_toArray, List.getElem_cons_succ, List.getElem_cons_zero, List.setIfInBounds_toArray, List.set_cons_zero, List.set_cons_succ])
    refine wpAnyH_take (i := 7) (v := ?_) rfl (by kernel_rfl) (by kernel_rfl) (by kernel_rfl) (fun _ _ _ h => h) (Or.inl ⟨by rfl, ?_⟩) (by assumption) ?_
    rotate_left
    · intro w hSw; (try dsimp only at hSw); go_simp; first | done | with_reducible rfl
    (try simp only [Act.put, Array.getInternal_eq_getElem, List.getElem_toArray, List.getElem_cons_succ, List.getElem_cons_zero, List.setIfInBounds_toArray, List.set_cons_zero, List.set_cons_succ])
    refine wpAnyH_take (i := 8) (v := ?_) rfl (by kernel_rfl) (by kernel_rfl) (by kernel_rfl) (fun _ _ _ h => h) (Or.inl ⟨by rfl, ?_⟩) (by assumption) ?_
    rotate_left
    · intro w hSw; (try dsimp only at hSw); go_simp; first | done | with_reducible rfl
    (try simp only [Act.put, Array.getInternal_eq_getElem, List.getElem_toArray, List.getElem_cons_succ, List.getElem_cons_zero, List.setIfInBounds_toArray, List.set_cons_zero, List.set_cons_succ])
    refine wpAnyH_take (i := 9) (v := ?_) rfl (by kernel_rfl) (by kernel_rfl) (by kernel_rfl) (fun _ _ _ h => h) (Or.inl ⟨by rfl, ?_⟩) (by assumption) ?_
    rotate_left
    · intro w hSw; (try dsimp only at hSw); go_simp; first | done | with_reducible rfl
    (try simp only [Act.put, Array.getInternal_eq_getElem, List.getElem_toArray, List.getElem_cons_succ, List.getElem_cons_zero, List.setIfInBounds_toArray, List.set_cons_zero, List.set_cons_succ])
    refine wpAnyH_ready (rs := [3]) (by kernel_rfl) (by simp) ?_
    refine AllReadyH.cons rfl (fun K hK => ?_) AllReadyH.nil
    go_simp
    refine (num4_walk m.seq _ N5).mono ?_
    rintro e w6 ⟨r6, rfl, t6, hb6⟩
    have HB6 := Lib.hid (HBd.out.trans (hb6.mono HBd.out.size))
    have HX6 := Lib.hid (HXd.out.below hb6 HXd.out.lt)
    have HP6 := Lib.hid (HPd.out.below hb6 HPd.out.lt)
    have hr6 : r6.size ≤ 4 := by rw [t6.size, beBytes_length]; exact Nat.le_refl _
    have TR6 := Lib.hid t6
    have g5 : ¬ 9223372036854775807 < sk.size + m.nonce.size + r6.size := by omega
    have g6 : ¬ 9223372036854775807 < sk.size + m.nonce.size + r6.size + r5.size := by omega
    have g7 : ¬ 9223372036854775807 < sk.size + m.nonce.size + r6.size + r5.size + m.sld.tag.size := by omega
    clear t6 hb6
    (try go_wp2_with fail)
    refine hK.out _ _ (⟨HX6.out.range, HX6.out.cell (i := 0) rfl, HX6.out.cell (i := 1) rfl, HX6.out.cell (i := 2) rfl, HX6.out.cell (i := 3) rfl, HX6.out.cell (i := 5) rfl, HX6.out.cell (i := 6) rfl, HX6.out.cell (i := 7) rfl, HX6.out.cell (i := 16) rfl⟩) (fun hHeld2 => ?_)
    clear hK K hHeld
    have hHeld := hHeld2
    clear hHeld2
    (try simp only [Act.put, Array.getInternal_eq_getElem, List.getElem_toArray, List.getElem_cons_succ, List.getElem_cons_zero, List.setIfInBounds_toArray, List.set_cons_zero, List.set_cons_succ])
    refine wpAnyH_take (i := 4) (v := ?_) rfl (by kernel_rfl) (by kernel_rfl) (by kernel_rfl) (fun _ _ _ h => h) (Or.inl ⟨by rfl, ?_⟩) (by assumption) ?_
    rotate_left
    · intro w hSw; (try dsimp only at hSw); go_simp; first | done | with_reducible rfl
    (try simp only [Act.put, Array.getInternal_eq_getElem, List.getElem_toArray, List.getElem_cons_succ, List.getElem_cons_zero, List.setIfInBounds_toArray, List.set_cons_zero, List.set_cons_succ])
    refine wpAnyH_take (i := 6) (v := ?_) rfl (by kernel_rfl) (by kernel_rfl) (by kernel_rfl) (fun _ _ _ h => h) (Or.inl ⟨by rfl, ?_⟩) (by assumption) ?_
    rotate_left
    · intro w hSw; (try dsimp only at hSw); go_simp; first | done | with_reducible rfl
    (try simp only [Act.put, Array.getInternal_eq_getElem, List.getElem_toArray, List.getElem_cons_succ, List.getElem_cons_zero, List.setIfInBounds_toArray, List.set_cons_zero, List.set_cons_succ])
    refine wpAnyH_take (i := 10) (v := ?_) rfl (by kernel_rfl) (by kernel_rfl) (by kernel_rfl) (fun _ _ _ h => h) (Or.inl ⟨by rfl, ?_⟩) (by assumption) ?_
    rotate_left
    · intro w hSw; (try dsimp only at hSw); go_simp; first | done | with_reducible rfl
    (try simp only [Act.put, Array.getInternal_eq_getElem, List.getElem_toArray, List.getElem_cons_succ, List.getElem_cons_zero, List.setIfInBounds_toArray, List.set_cons_zero, List.set_cons_succ])
    refine wpAnyH_take (i := 11) (v := ?_) rfl (by kernel_rfl) (by kernel_rfl) (by kernel_rfl) (fun _ _ _ h => h) (Or.inl ⟨by rfl, ?_⟩) (by assumption) ?_
    rotate_left
    · intro w hSw; (try dsimp only at hSw); go_simp; first | done | with_reducible rfl
    (try simp only [Act.put, Array.getInternal_eq_getElem, List.getElem_toArray, List.getElem_cons_succ, List.getElem_cons_zero, List.setIfInBounds_toArray, List.set_cons_zero, List.set_cons_succ])
    refine wpAnyH_done (by kernel_rfl) ?_ _
    go_wp2_with fail
    go_ret
    refine ⟨_, rfl, ?_, HB6.out⟩
    have hz : restL m = beBytes 4 m.seq.toNat ++ recPut m.sld.r ++ m.sld.tag.data.toList := by unfold restL; rw [HKK.out]; rfl
    unfold msgSaid
    rw [hz]
    exact (((TS.out.append TR6.out).append TR5.out).append (Txt.self m.sld.tag)).cast (by simp [List.append_assoc])
  have n6 : (m.kind == 6) = false := by simp [k6]
  by_cases k7 : m.kind = 7
  · have j0' : w4.cell? ⟨b, 0, none⟩ = some (.int .i64 7) := by rw [← k7]; exact j0
    clear j0
    have j0 := j0'
    clear j0'
    have HR2 := HR.out
    unfold rsaysOk at HR2
    rw [k7] at HR2
    have HKK := Lib.hid k7
    clear n1 n2 n3 n4 n5 n6 k7
    simp at HR2
    have HA := Lib.hid HR2
    have ha6 : (askBL m.askE m.askL).length = 6 := by unfold askBL; simp [beBytes_length]
    clear HR2
    go_wp2_with fail
    refine (asks27_walk m.askE m.askL _ HA.out).mono ?_
    rintro e w5 ⟨r5, rfl, t5, hb5⟩
    have HB5 := Lib.hid (HB.out.trans (hb5.mono HB.out.size))
    have hr5 : r5.size ≤ 6 := by rw [t5.size, ha6]; exact Nat.le_refl _
    have TR5 := Lib.hid t5
    clear t5 hb5 ha6
    go_wp2_with fail
    go_ret
    refine ⟨_, rfl, ?_, HB5.out⟩
    have hz : restL m = askBL m.askE m.askL := by unfold restL; rw [HKK.out]; rfl
    unfold msgSaid
    rw [hz]
    exact (TS.out.append TR5.out).cast (by simp [List.append_assoc])
  have n7 : (m.kind == 7) = false := by simp [k7]
  by_cases k8 : m.kind = 8
  · have j0' : w4.cell? ⟨b, 0, none⟩ = some (.int .i64 8) := by rw [← k8]; exact j0
    clear j0
    have j0 := j0'
    clear j0'
    have HR2 := HR.out
    unfold rsaysOk at HR2
    rw [k8] at HR2
    have HKK := Lib.hid k8
    clear n1 n2 n3 n4 n5 n6 n7 k8
    clear HR2
    have ht := (told_ok m.told).1 (HT.out HKK.out)
    have htb := ht.1
    have hto := ht.2
    simp only [rtoldOk, Bool.and_eq_true, decide_eq_true_eq] at hto
    obtain ⟨⟨⟨⟨⟨⟨g1, g2⟩, g3⟩, g4⟩, g5⟩, g6⟩, ⟨⟨g7, g8⟩, g9⟩, g10⟩ := hto
    have G1 := Lib.hid g1
    have ha6 : (askBL m.told.askE m.told.askL).length = 6 := by unfold askBL; simp [beBytes_length]
    have hfl : ∀ b, (flagL b).length = 1 := fun b => by unfold flagL; rw [beBytes_length]
    have HFL := Lib.hid hfl
    have g2 := epochOk_facts g2
    have N4 : NumIn m.told.slot 4 := .of4 g2
    have N5 : NumIn m.told.at_ 4 := .of4 ⟨g4.1, by omega⟩
    have hci : m.told.cipher.size ≤ 4000 := by omega
    have hx1 : (leafL m.told.here).length ≤ 35 := leafL_len g5
    have hx2 : (leafL m.told.ahead).length ≤ 35 := leafL_len g6
    have hx3 : (pathL m.told.up).length ≤ 8200 := pathL_len g7 g9
    have hx4 : (pathL m.told.left).length ≤ 8200 := pathL_len g8 g10
    have G5 := Lib.hid g5
    have G6 := Lib.hid g6
    have G7 := Lib.hid (And.intro g7 g9)
    have G8 := Lib.hid (And.intro g8 g10)
    have HA6 := Lib.hid ha6
    have HXS := Lib.hid (And.intro hx1 (And.intro hx2 (And.intro hx3 hx4)))
    clear ht htb g1 g2 g3 g4 g5 g6 g7 g8 g9 g10 hfl ha6 hx1 hx2 hx3 hx4
    go_wp2_with fail
    have HBd := Lib.hid (HB.out.drew)
    have HXd := Lib.hid (BX.out.drew)
    have HPd := Lib.hid (BP.out.drew)
    have hS0 : (fun w' => w'.cell? ⟨p, 0, none⟩ = some (.int .i64 m.told.askE) ∧ w'.cell? ⟨p, 1, none⟩ = some (.int .i64 m.told.askL) ∧ w'.cell? ⟨p, 2, none⟩ = some (.bool m.told.gone) ∧ w'.cell? ⟨p, 3, none⟩ = some (.bool m.told.found) ∧ w'.cell? ⟨p, 4, none⟩ = some (.int .i64 m.told.at_) ∧ w'.cell? ⟨p, 5, none⟩ = some (.int .i64 m.told.here.lba) ∧ w'.cell? ⟨p, 6, none⟩ = some (.string m.told.here.hash) ∧ w'.cell? ⟨p, 7, none⟩ = some (.int .i64 m.told.ahead.lba) ∧ w'.cell? ⟨p, 8, none⟩ = some (.string m.told.ahead.hash) ∧ w'.cell? ⟨p, 9, none⟩ = some ((.slice ua m.told.up.length uc)) ∧ w'.cell? ⟨p, 10, none⟩ = some ((.slice la m.told.left.length lc)) ∧ w'.cell? ⟨p, 11, none⟩ = some (.int .i64 m.told.slot) ∧ w'.cell? ⟨p, 12, none⟩ = some (.string m.told.cipher)) w4.drew := ⟨HPd.out.cell (i := 0) rfl, HPd.out.cell (i := 1) rfl, HPd.out.cell (i := 2) rfl, HPd.out.cell (i := 3) rfl, HPd.out.cell (i := 4) rfl, HPd.out.cell (i := 5) rfl, HPd.out.cell (i := 6) rfl, HPd.out.cell (i := 7) rfl, HPd.out.cell (i := 8) rfl, HPd.out.cell (i := 9) rfl, HPd.out.cell (i := 10) rfl, HPd.out.cell (i := 11) rfl, HPd.out.cell (i := 12) rfl⟩
    refine wp_region_held_drew (S := fun w' => w'.cell? ⟨p, 0, none⟩ = some (.int .i64 m.told.askE) ∧ w'.cell? ⟨p, 1, none⟩ = some (.int .i64 m.told.askL) ∧ w'.cell? ⟨p, 2, none⟩ = some (.bool m.told.gone) ∧ w'.cell? ⟨p, 3, none⟩ = some (.bool m.told.found) ∧ w'.cell? ⟨p, 4, none⟩ = some (.int .i64 m.told.at_) ∧ w'.cell? ⟨p, 5, none⟩ = some (.int .i64 m.told.here.lba) ∧ w'.cell? ⟨p, 6, none⟩ = some (.string m.told.here.hash) ∧ w'.cell? ⟨p, 7, none⟩ = some (.int .i64 m.told.ahead.lba) ∧ w'.cell? ⟨p, 8, none⟩ = some (.string m.told.ahead.hash) ∧ w'.cell? ⟨p, 9, none⟩ = some ((.slice ua m.told.up.length uc)) ∧ w'.cell? ⟨p, 10, none⟩ = some ((.slice la m.told.left.length lc)) ∧ w'.cell? ⟨p, 11, none⟩ = some (.int .i64 m.told.slot) ∧ w'.cell? ⟨p, 12, none⟩ = some (.string m.told.cipher)) (by kernel_rfl) (hS0) (fun hHeld => ?_)
    clear hS0
    refine wpAnyH_take (i := 0) (v := ?_) rfl (by kernel_rfl) (by kernel_rfl) (by kernel_rfl) (fun _ _ _ h => h) (Or.inl ⟨by rfl, ?_⟩) (by assumption) ?_
    rotate_left
    · intro w hSw; (try dsimp only at hSw); go_simp; first | done | with_reducible rfl
    (try simp only [Act.put, Array.getInternal_eq_getElem, List.getElem_toArray, List.getElem_cons_succ, List.getElem_cons_zero, List.setIfInBounds_toArray, List.set_cons_zero, List.set_cons_succ])
    refine wpAnyH_take (i := 1) (v := ?_) rfl (by kernel_rfl) (by kernel_rfl) (by kernel_rfl) (fun _ _ _ h => h) (Or.inl ⟨by rfl, ?_⟩) (by assumption) ?_
    rotate_left
    · intro w hSw; (try dsimp only at hSw); go_simp; first | done | with_reducible rfl
    (try simp only [Act.put, Array.getInternal_eq_getElem, List.getElem_toArray, List.getElem_cons_succ, List.getElem_cons_zero, List.setIfInBounds_toArray, List.set_cons_zero, List.set_cons_succ])
    refine wpAnyH_take (i := 2) (v := ?_) rfl (by kernel_rfl) (by kernel_rfl) (by kernel_rfl) (fun _ _ _ h => h) (Or.inl ⟨by rfl, ?_⟩) (by assumption) ?_
    rotate_left
    · intro w hSw; (try dsimp only at hSw); go_simp; first | done | with_reducible rfl
    (try simp only [Act.put, Array.getInternal_eq_getElem, List.getElem_toArray, List.getElem_cons_succ, List.getElem_cons_zero, List.setIfInBounds_toArray, List.set_cons_zero, List.set_cons_succ])
    refine wpAnyH_take (i := 5) (v := ?_) rfl (by kernel_rfl) (by kernel_rfl) (by kernel_rfl) (fun _ _ _ h => h) (Or.inl ⟨by rfl, ?_⟩) (by assumption) ?_
    rotate_left
    · intro w hSw; (try dsimp only at hSw); go_simp; first | done | with_reducible rfl
    (try simp only [Act.put, Array.getInternal_eq_getElem, List.getElem_toArray, List.getElem_cons_succ, List.getElem_cons_zero, List.setIfInBounds_toArray, List.set_cons_zero, List.set_cons_succ])
    refine wpAnyH_take (i := 6) (v := ?_) rfl (by kernel_rfl) (by kernel_rfl) (by kernel_rfl) (fun _ _ _ h => h) (Or.inl ⟨by rfl, ?_⟩) (by assumption) ?_
    rotate_left
    · intro w hSw; (try dsimp only at hSw); go_simp; first | done | with_reducible rfl
    (try simp only [Act.put, Array.getInternal_eq_getElem, List.getElem_toArray, List.getElem_cons_succ, List.getElem_cons_zero, List.setIfInBounds_toArray, List.set_cons_zero, List.set_cons_succ])
    refine wpAnyH_ready (rs := [3]) (by kernel_rfl) (by simp) ?_
    refine AllReadyH.cons rfl (fun K hK => ?_) AllReadyH.nil
    go_simp
    refine (asks27_walk m.told.askE m.told.askL _ G1.out).mono ?_
    rintro e w5 ⟨r5, rfl, t5, hb5⟩
    have HB5 := Lib.hid (HBd.out.trans (hb5.mono HBd.out.size))
    have HX5 := Lib.hid (HXd.out.below hb5 HXd.out.lt)
    have HP5 := Lib.hid (HPd.out.below hb5 HPd.out.lt)
    have hr5 : r5.size ≤ 6 := by rw [t5.size, HA6.out]; exact Nat.le_refl _
    have TR5 := Lib.hid t5
    have h5 : ¬ 9223372036854775807 < sk.size + m.nonce.size + r5.size := by omega
    clear t5 hb5
    (try go_wp2_with fail)
    refine hK.out _ _ (⟨HP5.out.cell (i := 0) rfl, HP5.out.cell (i := 1) rfl, HP5.out.cell (i := 2) rfl, HP5.out.cell (i := 3) rfl, HP5.out.cell (i := 4) rfl, HP5.out.cell (i := 5) rfl, HP5.out.cell (i := 6) rfl, HP5.out.cell (i := 7) rfl, HP5.out.cell (i := 8) rfl, HP5.out.cell (i := 9) rfl, HP5.out.cell (i := 10) rfl, HP5.out.cell (i := 11) rfl, HP5.out.cell (i := 12) rfl⟩) (fun hHeld2 => ?_)
    clear hK K hHeld
    have hHeld := hHeld2
    clear hHeld2
    (try simp only [Act.put, Array.getInternal_eq_getElem, List.getElem_toArray, List.getElem_cons_succ, List.getElem_cons_zero, List.setIfInBounds_toArray, List.set_cons_zero, List.set_cons_succ])
    refine wpAnyH_take (i := 4) (v := ?_) rfl (by kernel_rfl) (by kernel_rfl) (by kernel_rfl) (fun _ _ _ h => h) (Or.inl ⟨by rfl, ?_⟩) (by assumption) ?_
    rotate_left
    · intro w hSw; (try dsimp only at hSw); go_simp; first | done | with_reducible rfl
    (try simp only [Act.put, Array.getInternal_eq_getElem, List.getElem_toArray, List.getElem_cons_succ, List.getElem_cons_zero, List.setIfInBounds_toArray, List.set_cons_zero, List.set_cons_succ])
    refine wpAnyH_ready (rs := [7]) (by kernel_rfl) (by simp) ?_
    refine AllReadyH.cons rfl (fun K hK => ?_) AllReadyH.nil
    go_simp
    refine (yes27_walk m.told.gone _).mono ?_
    rintro e w6 ⟨r6, rfl, t6, hb6⟩
    have HB6 := Lib.hid (HB5.out.trans (hb6.mono HB5.out.size))
    have HX6 := Lib.hid (HX5.out.below hb6 HX5.out.lt)
    have HP6 := Lib.hid (HP5.out.below hb6 HP5.out.lt)
    have hr6 : r6.size ≤ 1 := by rw [t6.size, HFL.out]; exact Nat.le_refl _
    have TR6 := Lib.hid t6
    have h6 : ¬ 9223372036854775807 < sk.size + m.nonce.size + r5.size + r6.size := by omega
    clear t6 hb6
    (try go_wp2_with fail)
    refine hK.out _ _ (⟨HP6.out.cell (i := 0) rfl, HP6.out.cell (i := 1) rfl, HP6.out.cell (i := 2) rfl, HP6.out.cell (i := 3) rfl, HP6.out.cell (i := 4) rfl, HP6.out.cell (i := 5) rfl, HP6.out.cell (i := 6) rfl, HP6.out.cell (i := 7) rfl, HP6.out.cell (i := 8) rfl, HP6.out.cell (i := 9) rfl, HP6.out.cell (i := 10) rfl, HP6.out.cell (i := 11) rfl, HP6.out.cell (i := 12) rfl⟩) (fun hHeld2 => ?_)
    clear hK K hHeld
    have hHeld := hHeld2
    clear hHeld2
    (try simp only [Act.put, Array.getInternal_eq_getElem, List.getElem_toArray, List.getElem_cons_succ, List.getElem_cons_zero, List.setIfInBounds_toArray, List.set_cons_zero, List.set_cons_succ])
    refine wpAnyH_take (i := 8) (v := ?_) rfl (by kernel_rfl) (by kernel_rfl) (by kernel_rfl) (fun _ _ _ h => h) (Or.inl ⟨by rfl, ?_⟩) (by assumption) ?_
    rotate_left
    · intro w hSw; (try dsimp only at hSw); go_simp; first | done | with_reducible rfl
    (try simp only [Act.put, Array.getInternal_eq_getElem, List.getElem_toArray, List.getElem_cons_succ, List.getElem_cons_zero, List.setIfInBounds_toArray, List.set_cons_zero, List.set_cons_succ])
    refine wpAnyH_take (i := 9) (v := ?_) rfl (by kernel_rfl) (by kernel_rfl) (by kernel_rfl) (fun _ _ _ h => h) (Or.inl ⟨by rfl, ?_⟩) (by assumption) ?_
    rotate_left
    · intro w hSw; (try dsimp only at hSw); go_simp; first | done | with_reducible rfl
    (try simp only [Act.put, Array.getInternal_eq_getElem, List.getElem_toArray, List.getElem_cons_succ, List.getElem_cons_zero, List.setIfInBounds_toArray, List.set_cons_zero, List.set_cons_succ])
    refine wpAnyH_done (by kernel_rfl) ?_ _
    (try clear hHeld)
    have TS6 := Lib.hid ((TS.out.append TR5.out).append TR6.out)
    have hsz : (sk ++ m.nonce ++ r5 ++ r6).size ≤ 40 := by simp only [ByteArray.size_append]; omega
    clear h5 h6 TS TR5 TR6 hr5 hr6
    obtain ⟨T, hT⟩ : ∃ T, T = sk ++ m.nonce ++ r5 ++ r6 := ⟨_, rfl⟩
    rw [← hT] at hsz TS6 ⊢
    clear hT
    have t2 := HP6.out.cell (i := 2) rfl
    cases hg : m.told.gone with
    | true =>
      have t2' : w6.cell? ⟨p, 2, none⟩ = some (.bool true) := by rw [← hg]; exact t2
      clear t2
      have HG := Lib.hid hg
      clear hg
      go_wp2_with fail
      go_ret
      refine ⟨_, rfl, ?_, HB6.out⟩
      have hz : restL m = toldL m.told := by unfold restL; rw [HKK.out]; rfl
      unfold msgSaid
      rw [hz]
      refine TS6.out.cast ?_
      unfold toldL
      rw [HG.out]
      simp [List.append_assoc]
    | false =>
      have t2' : w6.cell? ⟨p, 2, none⟩ = some (.bool false) := by rw [← hg]; exact t2
      clear t2
      have HG := Lib.hid hg
      clear hg
      go_wp2_with fail
      have HBe := Lib.hid (HB6.out.drew)
      have HXe := Lib.hid (HX6.out.drew)
      have HPe := Lib.hid (HP6.out.drew)
      have hS0 : (fun w' => w'.cell? ⟨p, 0, none⟩ = some (.int .i64 m.told.askE) ∧ w'.cell? ⟨p, 1, none⟩ = some (.int .i64 m.told.askL) ∧ w'.cell? ⟨p, 2, none⟩ = some (.bool m.told.gone) ∧ w'.cell? ⟨p, 3, none⟩ = some (.bool m.told.found) ∧ w'.cell? ⟨p, 4, none⟩ = some (.int .i64 m.told.at_) ∧ w'.cell? ⟨p, 5, none⟩ = some (.int .i64 m.told.here.lba) ∧ w'.cell? ⟨p, 6, none⟩ = some (.string m.told.here.hash) ∧ w'.cell? ⟨p, 7, none⟩ = some (.int .i64 m.told.ahead.lba) ∧ w'.cell? ⟨p, 8, none⟩ = some (.string m.told.ahead.hash) ∧ w'.cell? ⟨p, 9, none⟩ = some ((.slice ua m.told.up.length uc)) ∧ w'.cell? ⟨p, 10, none⟩ = some ((.slice la m.told.left.length lc)) ∧ w'.cell? ⟨p, 11, none⟩ = some (.int .i64 m.told.slot) ∧ w'.cell? ⟨p, 12, none⟩ = some (.string m.told.cipher)) w6.drew := ⟨HPe.out.cell (i := 0) rfl, HPe.out.cell (i := 1) rfl, HPe.out.cell (i := 2) rfl, HPe.out.cell (i := 3) rfl, HPe.out.cell (i := 4) rfl, HPe.out.cell (i := 5) rfl, HPe.out.cell (i := 6) rfl, HPe.out.cell (i := 7) rfl, HPe.out.cell (i := 8) rfl, HPe.out.cell (i := 9) rfl, HPe.out.cell (i := 10) rfl, HPe.out.cell (i := 11) rfl, HPe.out.cell (i := 12) rfl⟩
      refine wp_region_held_drew (S := fun w' => w'.cell? ⟨p, 0, none⟩ = some (.int .i64 m.told.askE) ∧ w'.cell? ⟨p, 1, none⟩ = some (.int .i64 m.told.askL) ∧ w'.cell? ⟨p, 2, none⟩ = some (.bool m.told.gone) ∧ w'.cell? ⟨p, 3, none⟩ = some (.bool m.told.found) ∧ w'.cell? ⟨p, 4, none⟩ = some (.int .i64 m.told.at_) ∧ w'.cell? ⟨p, 5, none⟩ = some (.int .i64 m.told.here.lba) ∧ w'.cell? ⟨p, 6, none⟩ = some (.string m.told.here.hash) ∧ w'.cell? ⟨p, 7, none⟩ = some (.int .i64 m.told.ahead.lba) ∧ w'.cell? ⟨p, 8, none⟩ = some (.string m.told.ahead.hash) ∧ w'.cell? ⟨p, 9, none⟩ = some ((.slice ua m.told.up.length uc)) ∧ w'.cell? ⟨p, 10, none⟩ = some ((.slice la m.told.left.length lc)) ∧ w'.cell? ⟨p, 11, none⟩ = some (.int .i64 m.told.slot) ∧ w'.cell? ⟨p, 12, none⟩ = some (.string m.told.cipher)) (by kernel_rfl) (hS0) (fun hHeld => ?_)
      clear hS0
      refine wpAnyH_take (i := 0) (v := ?_) rfl (by kernel_rfl) (by kernel_rfl) (by kernel_rfl) (fun _ _ _ h => h) (Or.inl ⟨by rfl, ?_⟩) (by assumption) ?_
      rotate_left
      · intro w hSw; (try dsimp only at hSw); go_simp; first | done | with_reducible rfl
      (try simp only [Act.put, Array.getInternal_eq_getElem, List.getElem_toArray, List.getElem_cons_succ, List.getElem_cons_zero, List.setIfInBounds_toArray, List.set_cons_zero, List.set_cons_succ])
      refine wpAnyH_take (i := 1) (v := ?_) rfl (by kernel_rfl) (by kernel_rfl) (by kernel_rfl) (fun _ _ _ h => h) (Or.inl ⟨by rfl, ?_⟩) (by assumption) ?_
      rotate_left
      · intro w hSw; (try dsimp only at hSw); go_simp; first | done | with_reducible rfl
      (try simp only [Act.put, Array.getInternal_eq_getElem, List.getElem_toArray, List.getElem_cons_succ, List.getElem_cons_zero, List.setIfInBounds_toArray, List.set_cons_zero, List.set_cons_succ])
      refine wpAnyH_take (i := 2) (v := ?_) rfl (by kernel_rfl) (by kernel_rfl) (by kernel_rfl) (fun _ _ _ h => h) (Or.inl ⟨by rfl, ?_⟩) (by assumption) ?_
      rotate_left
      · intro w hSw; (try dsimp only at hSw); go_simp; first | done | with_reducible rfl
      (try simp only [Act.put, Array.getInternal_eq_getElem, List.getElem_toArray, List.getElem_cons_succ, List.getElem_cons_zero, List.setIfInBounds_toArray, List.set_cons_zero, List.set_cons_succ])
      refine wpAnyH_take (i := 5) (v := ?_) rfl (by kernel_rfl) (by kernel_rfl) (by kernel_rfl) (fun _ _ _ h => h) (Or.inl ⟨by rfl, ?_⟩) (by assumption) ?_
      rotate_left
      · intro w hSw; (try dsimp only at hSw); go_simp; first | done | with_reducible rfl
      (try simp only [Act.put, Array.getInternal_eq_getElem, List.getElem_toArray, List.getElem_cons_succ, List.getElem_cons_zero, List.setIfInBounds_toArray, List.set_cons_zero, List.set_cons_succ])
      refine wpAnyH_take (i := 6) (v := ?_) rfl (by kernel_rfl) (by kernel_rfl) (by kernel_rfl) (fun _ _ _ h => h) (Or.inl ⟨by rfl, ?_⟩) (by assumption) ?_
      rotate_left
      · intro w hSw; (try dsimp only at hSw); go_simp; first | done | with_reducible rfl
      (try simp only [Act.put, Array.getInternal_eq_getElem, List.getElem_toArray, List.getElem_cons_succ, List.getElem_cons_zero, List.setIfInBounds_toArray, List.set_cons_zero, List.set_cons_succ])
      refine wpAnyH_take (i := 9) (v := ?_) rfl (by kernel_rfl) (by kernel_rfl) (by kernel_rfl) (fun _ _ _ h => h) (Or.inl ⟨by rfl, ?_⟩) (by assumption) ?_
      rotate_left
      · intro w hSw; (try dsimp only at hSw); go_simp; first | done | with_reducible rfl
      (try simp only [Act.put, Array.getInternal_eq_getElem, List.getElem_toArray, List.getElem_cons_succ, List.getElem_cons_zero, List.setIfInBounds_toArray, List.set_cons_zero, List.set_cons_succ])
      refine wpAnyH_take (i := 10) (v := ?_) rfl (by kernel_rfl) (by kernel_rfl) (by kernel_rfl) (fun _ _ _ h => h) (Or.inl ⟨by rfl, ?_⟩) (by assumption) ?_
      rotate_left
      · intro w hSw; (try dsimp only at hSw); go_simp; first | done | with_reducible rfl
      (try simp only [Act.put, Array.getInternal_eq_getElem, List.getElem_toArray, List.getElem_cons_succ, List.getElem_cons_zero, List.setIfInBounds_toArray, List.set_cons_zero, List.set_cons_succ])
      refine wpAnyH_take (i := 11) (v := ?_) rfl (by kernel_rfl) (by kernel_rfl) (by kernel_rfl) (fun _ _ _ h => h) (Or.inl ⟨by rfl, ?_⟩) (by assumption) ?_
      rotate_left
      · intro w hSw; (try dsimp only at hSw); go_simp; first | done | with_reducible rfl
      (try simp only [Act.put, Array.getInternal_eq_getElem, List.getElem_toArray, List.getElem_cons_succ, List.getElem_cons_zero, List.setIfInBounds_toArray, List.set_cons_zero, List.set_cons_succ])
      refine wpAnyH_take (i := 14) (v := ?_) rfl (by kernel_rfl) (by kernel_rfl) (by kernel_rfl) (fun _ _ _ h => h) (Or.inl ⟨by rfl, ?_⟩) (by assumption) ?_
      rotate_left
      · intro w hSw; (try dsimp only at hSw); go_simp; first | done | with_reducible rfl
      (try simp only [Act.put, Array.getInternal_eq_getElem, List.getElem_toArray, List.getElem_cons_succ, List.getElem_cons_zero, List.setIfInBounds_toArray, List.set_cons_zero, List.set_cons_succ])
      refine wpAnyH_take (i := 15) (v := ?_) rfl (by kernel_rfl) (by kernel_rfl) (by kernel_rfl) (fun _ _ _ h => h) (Or.inl ⟨by rfl, ?_⟩) (by assumption) ?_
      rotate_left
      · intro w hSw; (try dsimp only at hSw); go_simp; first | done | with_reducible rfl
      (try simp only [Act.put, Array.getInternal_eq_getElem, List.getElem_toArray, List.getElem_cons_succ, List.getElem_cons_zero, List.setIfInBounds_toArray, List.set_cons_zero, List.set_cons_succ])
      refine wpAnyH_take (i := 16) (v := ?_) rfl (by kernel_rfl) (by kernel_rfl) (by kernel_rfl) (fun _ _ _ h => h) (Or.inl ⟨by rfl, ?_⟩) (by assumption) ?_
      rotate_left
      · intro w hSw; (try dsimp only at hSw); go_simp; first | done | with_reducible rfl
      (try simp only [Act.put, Array.getInternal_eq_getElem, List.getElem_toArray, List.getElem_cons_succ, List.getElem_cons_zero, List.setIfInBounds_toArray, List.set_cons_zero, List.set_cons_succ])
      refine wpAnyH_take (i := 19) (v := ?_) rfl (by kernel_rfl) (by kernel_rfl) (by kernel_rfl) (fun _ _ _ h => h) (Or.inl ⟨by rfl, ?_⟩) (by assumption) ?_
      rotate_left
      · intro w hSw; (try dsimp only at hSw); go_simp; first | done | with_reducible rfl
      (try simp only [Act.put, Array.getInternal_eq_getElem, List.getElem_toArray, List.getElem_cons_succ, List.getElem_cons_zero, List.setIfInBounds_toArray, List.set_cons_zero, List.set_cons_succ])
      refine wpAnyH_take (i := 20) (v := ?_) rfl (by kernel_rfl) (by kernel_rfl) (by kernel_rfl) (fun _ _ _ h => h) (Or.inl ⟨by rfl, ?_⟩) (by assumption) ?_
      rotate_left
      · intro w hSw; (try dsimp only at hSw); go_simp; first | done | with_reducible rfl
      (try simp only [Act.put, Array.getInternal_eq_getElem, List.getElem_toArray, List.getElem_cons_succ, List.getElem_cons_zero, List.setIfInBounds_toArray, List.set_cons_zero, List.set_cons_succ])
      refine wpAnyH_take (i := 21) (v := ?_) rfl (by kernel_rfl) (by kernel_rfl) (by kernel_rfl) (fun _ _ _ h => h) (Or.inl ⟨by rfl, ?_⟩) (by assumption) ?_
      rotate_left
      · intro w hSw; (try dsimp only at hSw); go_simp; first | done | with_reducible rfl
      (try simp only [Act.put, Array.getInternal_eq_getElem, List.getElem_toArray, List.getElem_cons_succ, List.getElem_cons_zero, List.setIfInBounds_toArray, List.set_cons_zero, List.set_cons_succ])
      refine wpAnyH_take (i := 24) (v := ?_) rfl (by kernel_rfl) (by kernel_rfl) (by kernel_rfl) (fun _ _ _ h => h) (Or.inl ⟨by rfl, ?_⟩) (by assumption) ?_
      rotate_left
      · intro w hSw; (try dsimp only at hSw); go_simp; first | done | with_reducible rfl
      (try simp only [Act.put, Array.getInternal_eq_getElem, List.getElem_toArray, List.getElem_cons_succ, List.getElem_cons_zero, List.setIfInBounds_toArray, List.set_cons_zero, List.set_cons_succ])
      refine wpAnyH_take (i := 25) (v := ?_) rfl (by kernel_rfl) (by kernel_rfl) (by kernel_rfl) (fun _ _ _ h => h) (Or.inl ⟨by rfl, ?_⟩) (by assumption) ?_
      rotate_left
      · intro w hSw; (try dsimp only at hSw); go_simp; first | done | with_reducible rfl
      (try simp only [Act.put, Array.getInternal_eq_getElem, List.getElem_toArray, List.getElem_cons_succ, List.getElem_cons_zero, List.setIfInBounds_toArray, List.set_cons_zero, List.set_cons_succ])
      refine wpAnyH_take (i := 26) (v := ?_) rfl (by kernel_rfl) (by kernel_rfl) (by kernel_rfl) (fun _ _ _ h => h) (Or.inl ⟨by rfl, ?_⟩) (by assumption) ?_
      rotate_left
      · intro w hSw; (try dsimp only at hSw); go_simp; first | done | with_reducible rfl
      (try simp only [Act.put, Array.getInternal_eq_getElem, List.getElem_toArray, List.getElem_cons_succ, List.getElem_cons_zero, List.setIfInBounds_toArray, List.set_cons_zero, List.set_cons_succ])
      refine wpAnyH_take (i := 29) (v := ?_) rfl (by kernel_rfl) (by kernel_rfl) (by kernel_rfl) (fun _ _ _ h => h) (Or.inl ⟨by rfl, ?_⟩) (by assumption) ?_
      rotate_left
      · intro w hSw; (try dsimp only at hSw); go_simp; first | done | with_reducible rfl
      (try simp only [Act.put, Array.getInternal_eq_getElem, List.getElem_toArray, List.getElem_cons_succ, List.getElem_cons_zero, List.setIfInBounds_toArray, List.set_cons_zero, List.set_cons_succ])
      refine wpAnyH_take (i := 30) (v := ?_) rfl (by kernel_rfl) (by kernel_rfl) (by kernel_rfl) (fun _ _ _ h => h) (Or.inl ⟨by rfl, ?_⟩) (by assumption) ?_
      rotate_left
      · intro w hSw; (try dsimp only at hSw); go_simp; first | done | with_reducible rfl
      (try simp only [Act.put, Array.getInternal_eq_getElem, List.getElem_toArray, List.getElem_cons_succ, List.getElem_cons_zero, List.setIfInBounds_toArray, List.set_cons_zero, List.set_cons_succ])
      refine wpAnyH_take (i := 31) (v := ?_) rfl (by kernel_rfl) (by kernel_rfl) (by kernel_rfl) (fun _ _ _ h => h) (Or.inl ⟨by rfl, ?_⟩) (by assumption) ?_
      rotate_left
      · intro w hSw; (try dsimp only at hSw); go_simp; first | done | with_reducible rfl
      (try simp only [Act.put, Array.getInternal_eq_getElem, List.getElem_toArray, List.getElem_cons_succ, List.getElem_cons_zero, List.setIfInBounds_toArray, List.set_cons_zero, List.set_cons_succ])
      refine wpAnyH_take (i := 34) (v := ?_) rfl (by kernel_rfl) (by kernel_rfl) (by kernel_rfl) (fun _ _ _ h => h) (Or.inl ⟨by rfl, ?_⟩) (by assumption) ?_
      rotate_left
      · intro w hSw; (try dsimp only at hSw); go_simp; first | done | with_reducible rfl
      (try simp only [Act.put, Array.getInternal_eq_getElem, List.getElem_toArray, List.getElem_cons_succ, List.getElem_cons_zero, List.setIfInBounds_toArray, List.set_cons_zero, List.set_cons_succ])
      refine wpAnyH_take (i := 35) (v := ?_) rfl (by kernel_rfl) (by kernel_rfl) (by kernel_rfl) (fun _ _ _ h => h) (Or.inl ⟨by rfl, ?_⟩) (by assumption) ?_
      rotate_left
      · intro w hSw; (try dsimp only at hSw); go_simp; first | done | with_reducible rfl
      (try simp only [Act.put, Array.getInternal_eq_getElem, List.getElem_toArray, List.getElem_cons_succ, List.getElem_cons_zero, List.setIfInBounds_toArray, List.set_cons_zero, List.set_cons_succ])
      refine wpAnyH_take (i := 36) (v := ?_) rfl (by kernel_rfl) (by kernel_rfl) (by kernel_rfl) (fun _ _ _ h => h) (Or.inl ⟨by rfl, ?_⟩) (by assumption) ?_
      rotate_left
      · intro w hSw; (try dsimp only at hSw); go_simp; first | done | with_reducible rfl
      (try simp only [Act.put, Array.getInternal_eq_getElem, List.getElem_toArray, List.getElem_cons_succ, List.getElem_cons_zero, List.setIfInBounds_toArray, List.set_cons_zero, List.set_cons_succ])
      refine wpAnyH_ready (rs := [3]) (by kernel_rfl) (by simp) ?_
      refine AllReadyH.cons rfl (fun K hK => ?_) AllReadyH.nil
      go_simp
      refine (num4_walk m.told.slot _ N4).mono ?_
      rintro e w11 ⟨r11, rfl, t11, hb11⟩
      have HB11 := Lib.hid (HBe.out.trans (hb11.mono HBe.out.size))
      have HX11 := Lib.hid (HXe.out.below hb11 HXe.out.lt)
      have HP11 := Lib.hid (HPe.out.below hb11 HPe.out.lt)
      have hr11 : r11.size ≤ 4 := by rw [t11.size, beBytes_length]; exact Nat.le_refl _
      have TR11 := Lib.hid t11
      have g11 : ¬ 9223372036854775807 < T.size + r11.size := by omega
      clear t11 hb11
      (try go_wp2_with fail)
      refine hK.out _ _ (⟨HP11.out.cell (i := 0) rfl, HP11.out.cell (i := 1) rfl, HP11.out.cell (i := 2) rfl, HP11.out.cell (i := 3) rfl, HP11.out.cell (i := 4) rfl, HP11.out.cell (i := 5) rfl, HP11.out.cell (i := 6) rfl, HP11.out.cell (i := 7) rfl, HP11.out.cell (i := 8) rfl, HP11.out.cell (i := 9) rfl, HP11.out.cell (i := 10) rfl, HP11.out.cell (i := 11) rfl, HP11.out.cell (i := 12) rfl⟩) (fun hHeld2 => ?_)
      clear hK K hHeld
      have hHeld := hHeld2
      clear hHeld2
      (try simp only [Act.put, Array.getInternal_eq_getElem, List.getElem_toArray, List.getElem_cons_succ, List.getElem_cons_zero, List.setIfInBounds_toArray, List.set_cons_zero, List.set_cons_succ])
      refine wpAnyH_take (i := 4) (v := ?_) rfl (by kernel_rfl) (by kernel_rfl) (by kernel_rfl) (fun _ _ _ h => h) (Or.inl ⟨by rfl, ?_⟩) (by assumption) ?_
      rotate_left
      · intro w hSw; (try dsimp only at hSw); go_simp; first | done | with_reducible rfl
      (try simp only [Act.put, Array.getInternal_eq_getElem, List.getElem_toArray, List.getElem_cons_succ, List.getElem_cons_zero, List.setIfInBounds_toArray, List.set_cons_zero, List.set_cons_succ])
      refine wpAnyH_ready (rs := [7]) (by kernel_rfl) (by simp) ?_
      refine AllReadyH.cons rfl (fun K hK => ?_) AllReadyH.nil
      go_simp
      refine (rtext01_walk m.told.cipher _ (by omega)).mono ?_
      rintro e w12 ⟨r12, rfl, t12, hb12⟩
      have HB12 := Lib.hid (HB11.out.trans (hb12.mono HB11.out.size))
      have HX12 := Lib.hid (HX11.out.below hb12 HX11.out.lt)
      have HP12 := Lib.hid (HP11.out.below hb12 HP11.out.lt)
      have hr12 : r12.size ≤ 4004 := by rw [t12.size, textL_length]; show 4 + m.told.cipher.size ≤ 4004; omega
      have TR12 := Lib.hid t12
      have g12 : ¬ 9223372036854775807 < T.size + r11.size + r12.size := by omega
      clear t12 hb12
      (try go_wp2_with fail)
      refine hK.out _ _ (⟨HP12.out.cell (i := 0) rfl, HP12.out.cell (i := 1) rfl, HP12.out.cell (i := 2) rfl, HP12.out.cell (i := 3) rfl, HP12.out.cell (i := 4) rfl, HP12.out.cell (i := 5) rfl, HP12.out.cell (i := 6) rfl, HP12.out.cell (i := 7) rfl, HP12.out.cell (i := 8) rfl, HP12.out.cell (i := 9) rfl, HP12.out.cell (i := 10) rfl, HP12.out.cell (i := 11) rfl, HP12.out.cell (i := 12) rfl⟩) (fun hHeld2 => ?_)
      clear hK K hHeld
      have hHeld := hHeld2
      clear hHeld2
      (try simp only [Act.put, Array.getInternal_eq_getElem, List.getElem_toArray, List.getElem_cons_succ, List.getElem_cons_zero, List.setIfInBounds_toArray, List.set_cons_zero, List.set_cons_succ])
      refine wpAnyH_take (i := 8) (v := ?_) rfl (by kernel_rfl) (by kernel_rfl) (by kernel_rfl) (fun _ _ _ h => h) (Or.inl ⟨by rfl, ?_⟩) (by assumption) ?_
      rotate_left
      · intro w hSw; (try dsimp only at hSw); go_simp; first | done | with_reducible rfl
      (try simp only [Act.put, Array.getInternal_eq_getElem, List.getElem_toArray, List.getElem_cons_succ, List.getElem_cons_zero, List.setIfInBounds_toArray, List.set_cons_zero, List.set_cons_succ])
      refine wpAnyH_ready (rs := [12]) (by kernel_rfl) (by simp) ?_
      refine AllReadyH.cons rfl (fun K hK => ?_) AllReadyH.nil
      go_simp
      refine (yes27_walk m.told.found _).mono ?_
      rintro e w13 ⟨r13, rfl, t13, hb13⟩
      have HB13 := Lib.hid (HB12.out.trans (hb13.mono HB12.out.size))
      have HX13 := Lib.hid (HX12.out.below hb13 HX12.out.lt)
      have HP13 := Lib.hid (HP12.out.below hb13 HP12.out.lt)
      have hr13 : r13.size ≤ 1 := by rw [t13.size, HFL.out]; exact Nat.le_refl _
      have TR13 := Lib.hid t13
      have g13 : ¬ 9223372036854775807 < T.size + r11.size + r12.size + r13.size := by omega
      clear t13 hb13
      (try go_wp2_with fail)
      refine hK.out _ _ (⟨HP13.out.cell (i := 0) rfl, HP13.out.cell (i := 1) rfl, HP13.out.cell (i := 2) rfl, HP13.out.cell (i := 3) rfl, HP13.out.cell (i := 4) rfl, HP13.out.cell (i := 5) rfl, HP13.out.cell (i := 6) rfl, HP13.out.cell (i := 7) rfl, HP13.out.cell (i := 8) rfl, HP13.out.cell (i := 9) rfl, HP13.out.cell (i := 10) rfl, HP13.out.cell (i := 11) rfl, HP13.out.cell (i := 12) rfl⟩) (fun hHeld2 => ?_)
      clear hK K hHeld
      have hHeld := hHeld2
      clear hHeld2
      (try simp only [Act.put, Array.getInternal_eq_getElem, List.getElem_toArray, List.getElem_cons_succ, List.getElem_cons_zero, List.setIfInBounds_toArray, List.set_cons_zero, List.set_cons_succ])
      refine wpAnyH_take (i := 13) (v := ?_) rfl (by kernel_rfl) (by kernel_rfl) (by kernel_rfl) (fun _ _ _ h => h) (Or.inl ⟨by rfl, ?_⟩) (by assumption) ?_
      rotate_left
      · intro w hSw; (try dsimp only at hSw); go_simp; first | done | with_reducible rfl
      (try simp only [Act.put, Array.getInternal_eq_getElem, List.getElem_toArray, List.getElem_cons_succ, List.getElem_cons_zero, List.setIfInBounds_toArray, List.set_cons_zero, List.set_cons_succ])
      refine wpAnyH_ready (rs := [17]) (by kernel_rfl) (by simp) ?_
      refine AllReadyH.cons rfl (fun K hK => ?_) AllReadyH.nil
      go_simp
      refine (num4_walk m.told.at_ _ N5).mono ?_
      rintro e w14 ⟨r14, rfl, t14, hb14⟩
      have HB14 := Lib.hid (HB13.out.trans (hb14.mono HB13.out.size))
      have HX14 := Lib.hid (HX13.out.below hb14 HX13.out.lt)
      have HP14 := Lib.hid (HP13.out.below hb14 HP13.out.lt)
      have hr14 : r14.size ≤ 4 := by rw [t14.size, beBytes_length]; exact Nat.le_refl _
      have TR14 := Lib.hid t14
      have g14 : ¬ 9223372036854775807 < T.size + r11.size + r12.size + r13.size + r14.size := by omega
      clear t14 hb14
      (try go_wp2_with fail)
      refine hK.out _ _ (⟨HP14.out.cell (i := 0) rfl, HP14.out.cell (i := 1) rfl, HP14.out.cell (i := 2) rfl, HP14.out.cell (i := 3) rfl, HP14.out.cell (i := 4) rfl, HP14.out.cell (i := 5) rfl, HP14.out.cell (i := 6) rfl, HP14.out.cell (i := 7) rfl, HP14.out.cell (i := 8) rfl, HP14.out.cell (i := 9) rfl, HP14.out.cell (i := 10) rfl, HP14.out.cell (i := 11) rfl, HP14.out.cell (i := 12) rfl⟩) (fun hHeld2 => ?_)
      clear hK K hHeld
      have hHeld := hHeld2
      clear hHeld2
      (try simp only [Act.put, Array.getInternal_eq_getElem, List.getElem_toArray, List.getElem_cons_succ, List.getElem_cons_zero, List.setIfInBounds_toArray, List.set_cons_zero, List.set_cons_succ])
      refine wpAnyH_take (i := 18) (v := ?_) rfl (by kernel_rfl) (by kernel_rfl) (by kernel_rfl) (fun _ _ _ h => h) (Or.inl ⟨by rfl, ?_⟩) (by assumption) ?_
      rotate_left
      · intro w hSw; (try dsimp only at hSw); go_simp; first | done | with_reducible rfl
      (try simp only [Act.put, Array.getInternal_eq_getElem, List.getElem_toArray, List.getElem_cons_succ, List.getElem_cons_zero, List.setIfInBounds_toArray, List.set_cons_zero, List.set_cons_succ])
      refine wpAnyH_ready (rs := [22]) (by kernel_rfl) (by simp) ?_
      refine AllReadyH.cons rfl (fun K hK => ?_) AllReadyH.nil
      go_simp
      refine (leafs27_walk m.told.here _ G5.out).mono ?_
      rintro e w15 ⟨r15, rfl, t15, hb15⟩
      have HB15 := Lib.hid (HB14.out.trans (hb15.mono HB14.out.size))
      have HX15 := Lib.hid (HX14.out.below hb15 HX14.out.lt)
      have HP15 := Lib.hid (HP14.out.below hb15 HP14.out.lt)
      have hr15 : r15.size ≤ 35 := by rw [t15.size]; exact HXS.out.1
      have TR15 := Lib.hid t15
      have g15 : ¬ 9223372036854775807 < T.size + r11.size + r12.size + r13.size + r14.size + r15.size := by omega
      clear t15 hb15
      (try go_wp2_with fail)
      refine hK.out _ _ (⟨HP15.out.cell (i := 0) rfl, HP15.out.cell (i := 1) rfl, HP15.out.cell (i := 2) rfl, HP15.out.cell (i := 3) rfl, HP15.out.cell (i := 4) rfl, HP15.out.cell (i := 5) rfl, HP15.out.cell (i := 6) rfl, HP15.out.cell (i := 7) rfl, HP15.out.cell (i := 8) rfl, HP15.out.cell (i := 9) rfl, HP15.out.cell (i := 10) rfl, HP15.out.cell (i := 11) rfl, HP15.out.cell (i := 12) rfl⟩) (fun hHeld2 => ?_)
      clear hK K hHeld
      have hHeld := hHeld2
      clear hHeld2
      (try simp only [Act.put, Array.getInternal_eq_getElem, List.getElem_toArray, List.getElem_cons_succ, List.getElem_cons_zero, List.setIfInBounds_toArray, List.set_cons_zero, List.set_cons_succ])
      refine wpAnyH_take (i := 23) (v := ?_) rfl (by kernel_rfl) (by kernel_rfl) (by kernel_rfl) (fun _ _ _ h => h) (Or.inl ⟨by rfl, ?_⟩) (by assumption) ?_
      rotate_left
      · intro w hSw; (try dsimp only at hSw); go_simp; first | done | with_reducible rfl
      (try simp only [Act.put, Array.getInternal_eq_getElem, List.getElem_toArray, List.getElem_cons_succ, List.getElem_cons_zero, List.setIfInBounds_toArray, List.set_cons_zero, List.set_cons_succ])
      refine wpAnyH_ready (rs := [27]) (by kernel_rfl) (by simp) ?_
      refine AllReadyH.cons rfl (fun K hK => ?_) AllReadyH.nil
      go_simp
      refine (leafs27_walk m.told.ahead _ G6.out).mono ?_
      rintro e w16 ⟨r16, rfl, t16, hb16⟩
      have HB16 := Lib.hid (HB15.out.trans (hb16.mono HB15.out.size))
      have HX16 := Lib.hid (HX15.out.below hb16 HX15.out.lt)
      have HP16 := Lib.hid (HP15.out.below hb16 HP15.out.lt)
      have hr16 : r16.size ≤ 35 := by rw [t16.size]; exact HXS.out.2.1
      have TR16 := Lib.hid t16
      have g16 : ¬ 9223372036854775807 < T.size + r11.size + r12.size + r13.size + r14.size + r15.size + r16.size := by omega
      clear t16 hb16
      (try go_wp2_with fail)
      refine hK.out _ _ (⟨HP16.out.cell (i := 0) rfl, HP16.out.cell (i := 1) rfl, HP16.out.cell (i := 2) rfl, HP16.out.cell (i := 3) rfl, HP16.out.cell (i := 4) rfl, HP16.out.cell (i := 5) rfl, HP16.out.cell (i := 6) rfl, HP16.out.cell (i := 7) rfl, HP16.out.cell (i := 8) rfl, HP16.out.cell (i := 9) rfl, HP16.out.cell (i := 10) rfl, HP16.out.cell (i := 11) rfl, HP16.out.cell (i := 12) rfl⟩) (fun hHeld2 => ?_)
      clear hK K hHeld
      have hHeld := hHeld2
      clear hHeld2
      (try simp only [Act.put, Array.getInternal_eq_getElem, List.getElem_toArray, List.getElem_cons_succ, List.getElem_cons_zero, List.setIfInBounds_toArray, List.set_cons_zero, List.set_cons_succ])
      refine wpAnyH_take (i := 28) (v := ?_) rfl (by kernel_rfl) (by kernel_rfl) (by kernel_rfl) (fun _ _ _ h => h) (Or.inl ⟨by rfl, ?_⟩) (by assumption) ?_
      rotate_left
      · intro w hSw; (try dsimp only at hSw); go_simp; first | done | with_reducible rfl
      (try simp only [Act.put, Array.getInternal_eq_getElem, List.getElem_toArray, List.getElem_cons_succ, List.getElem_cons_zero, List.setIfInBounds_toArray, List.set_cons_zero, List.set_cons_succ])
      refine wpAnyH_ready (rs := [32]) (by kernel_rfl) (by simp) ?_
      refine AllReadyH.cons rfl (fun K hK => ?_) AllReadyH.nil
      go_simp
      refine (paths27_walk _ m.told.up _ (RU.out _ HB16.out).1 G7.out.1 G7.out.2).mono ?_
      rintro e w17 ⟨r17, rfl, t17, hb17⟩
      have HB17 := Lib.hid (HB16.out.trans (hb17.mono HB16.out.size))
      have HX17 := Lib.hid (HX16.out.below hb17 HX16.out.lt)
      have HP17 := Lib.hid (HP16.out.below hb17 HP16.out.lt)
      have hr17 : r17.size ≤ 8200 := by rw [t17.size]; exact HXS.out.2.2.1
      have TR17 := Lib.hid t17
      have g17 : ¬ 9223372036854775807 < T.size + r11.size + r12.size + r13.size + r14.size + r15.size + r16.size + r17.size := by omega
      clear t17 hb17
      (try go_wp2_with fail)
      refine hK.out _ _ (⟨HP17.out.cell (i := 0) rfl, HP17.out.cell (i := 1) rfl, HP17.out.cell (i := 2) rfl, HP17.out.cell (i := 3) rfl, HP17.out.cell (i := 4) rfl, HP17.out.cell (i := 5) rfl, HP17.out.cell (i := 6) rfl, HP17.out.cell (i := 7) rfl, HP17.out.cell (i := 8) rfl, HP17.out.cell (i := 9) rfl, HP17.out.cell (i := 10) rfl, HP17.out.cell (i := 11) rfl, HP17.out.cell (i := 12) rfl⟩) (fun hHeld2 => ?_)
      clear hK K hHeld
      have hHeld := hHeld2
      clear hHeld2
      (try simp only [Act.put, Array.getInternal_eq_getElem, List.getElem_toArray, List.getElem_cons_succ, List.getElem_cons_zero, List.setIfInBounds_toArray, List.set_cons_zero, List.set_cons_succ])
      refine wpAnyH_take (i := 33) (v := ?_) rfl (by kernel_rfl) (by kernel_rfl) (by kernel_rfl) (fun _ _ _ h => h) (Or.inl ⟨by rfl, ?_⟩) (by assumption) ?_
      rotate_left
      · intro w hSw; (try dsimp only at hSw); go_simp; first | done | with_reducible rfl
      (try simp only [Act.put, Array.getInternal_eq_getElem, List.getElem_toArray, List.getElem_cons_succ, List.getElem_cons_zero, List.setIfInBounds_toArray, List.set_cons_zero, List.set_cons_succ])
      refine wpAnyH_ready (rs := [37]) (by kernel_rfl) (by simp) ?_
      refine AllReadyH.cons rfl (fun K hK => ?_) AllReadyH.nil
      go_simp
      refine (paths27_walk _ m.told.left _ (RU.out _ HB17.out).2 G8.out.1 G8.out.2).mono ?_
      rintro e w18 ⟨r18, rfl, t18, hb18⟩
      have HB18 := Lib.hid (HB17.out.trans (hb18.mono HB17.out.size))
      have HX18 := Lib.hid (HX17.out.below hb18 HX17.out.lt)
      have HP18 := Lib.hid (HP17.out.below hb18 HP17.out.lt)
      have hr18 : r18.size ≤ 8200 := by rw [t18.size]; exact HXS.out.2.2.2
      have TR18 := Lib.hid t18
      have g18 : ¬ 9223372036854775807 < T.size + r11.size + r12.size + r13.size + r14.size + r15.size + r16.size + r17.size + r18.size := by omega
      clear t18 hb18
      (try go_wp2_with fail)
      refine hK.out _ _ (⟨HP18.out.cell (i := 0) rfl, HP18.out.cell (i := 1) rfl, HP18.out.cell (i := 2) rfl, HP18.out.cell (i := 3) rfl, HP18.out.cell (i := 4) rfl, HP18.out.cell (i := 5) rfl, HP18.out.cell (i := 6) rfl, HP18.out.cell (i := 7) rfl, HP18.out.cell (i := 8) rfl, HP18.out.cell (i := 9) rfl, HP18.out.cell (i := 10) rfl, HP18.out.cell (i := 11) rfl, HP18.out.cell (i := 12) rfl⟩) (fun hHeld2 => ?_)
      clear hK K hHeld
      have hHeld := hHeld2
      clear hHeld2
      (try simp only [Act.put, Array.getInternal_eq_getElem, List.getElem_toArray, List.getElem_cons_succ, List.getElem_cons_zero, List.setIfInBounds_toArray, List.set_cons_zero, List.set_cons_succ])
      refine wpAnyH_take (i := 38) (v := ?_) rfl (by kernel_rfl) (by kernel_rfl) (by kernel_rfl) (fun _ _ _ h => h) (Or.inl ⟨by rfl, ?_⟩) (by assumption) ?_
      rotate_left
      · intro w hSw; (try dsimp only at hSw); go_simp; first | done | with_reducible rfl
      (try simp only [Act.put, Array.getInternal_eq_getElem, List.getElem_toArray, List.getElem_cons_succ, List.getElem_cons_zero, List.setIfInBounds_toArray, List.set_cons_zero, List.set_cons_succ])
      refine wpAnyH_take (i := 39) (v := ?_) rfl (by kernel_rfl) (by kernel_rfl) (by kernel_rfl) (fun _ _ _ h => h) (Or.inl ⟨by rfl, ?_⟩) (by assumption) ?_
      rotate_left
      · intro w hSw; (try dsimp only at hSw); go_simp; first | done | with_reducible rfl
      (try simp only [Act.put, Array.getInternal_eq_getElem, List.getElem_toArray, List.getElem_cons_succ, List.getElem_cons_zero, List.setIfInBounds_toArray, List.set_cons_zero, List.set_cons_succ])
      refine wpAnyH_done (by kernel_rfl) ?_ _
      go_wp2_with fail
      go_ret
      refine ⟨_, rfl, ?_, HB18.out⟩
      have hz : restL m = toldL m.told := by unfold restL; rw [HKK.out]; rfl
      unfold msgSaid
      rw [hz]
      refine (((((((((TS6.out).append TR11.out).append TR12.out).append TR13.out).append TR14.out).append TR15.out).append TR16.out).append TR17.out).append TR18.out).cast ?_
      unfold toldL
      rw [HG.out]
      simp [List.append_assoc]
  have n8 : (m.kind == 8) = false := by simp [k8]
  by_cases k10 : m.kind = 10
  · have j0' : w4.cell? ⟨b, 0, none⟩ = some (.int .i64 10) := by rw [← k10]; exact j0
    clear j0
    have j0 := j0'
    clear j0'
    have HR2 := HR.out
    unfold rsaysOk at HR2
    rw [k10] at HR2
    have HKK := Lib.hid k10
    clear n1 n2 n3 n4 n5 n6 n7 n8 k10
    simp at HR2
    have hf := rcpOk_rec HR2
    have hrr := recOk_facts hf.1
    have HRO := Lib.hid HR2
    have hsq : 0 ≤ m.rcp.seq ∧ m.rcp.seq ≤ 4294967295 := by simp only [rcpOk, Bool.and_eq_true, decide_eq_true_eq] at HR2; omega
    have hrl := rcpPut_length HR2
    clear HR2
    go_wp2_with ((with_reducible refine wpList_load_met 37 (.tmp 131) b 30 m.rcp.cells _ (some 132) ((BX.out.ext (m.rcpAt (.slice ua m.told.up.length uc) (.slice la m.told.left.length lc))).part (off := 30) rfl) Tryz.underlying37 rfl rsizeRcp ?hg ?ho ?hds ?hx ?_); (case ho | hg | hds | hx => rfl))
    refine (rrcpput_walk m.rcp _ (by omega) (by omega) ⟨by omega, by omega⟩ ⟨by omega, by omega⟩).mono ?_
    rintro e w5 ⟨he, hb5⟩
    obtain ⟨r5, rfl, t5⟩ := he.yes HRO.out
    have HB5 := Lib.hid (HB.out.trans (hb5.mono HB.out.size))
    have hr5 : r5.size ≤ 200 := by rw [t5.size]; exact hrl
    have TR5 := Lib.hid t5
    clear he t5 hb5 hrl hrr hf hsq
    go_wp2_with fail
    go_ret
    refine ⟨_, rfl, ?_, HB5.out⟩
    have hz : restL m = rcpPut m.rcp := by unfold restL; rw [HKK.out]; rfl
    unfold msgSaid
    rw [hz]
    exact (TS.out.append TR5.out).cast (by simp [List.append_assoc])
  have n10 : (m.kind == 10) = false := by simp [k10]
  exfalso
  have h := HR.out
  unfold rsaysOk at h
  simp [k1, k2, k3, k4, k5, k6, k7, k8, k10] at h
end Go.Proofs.YtidekfbgjghcjaaGreat

