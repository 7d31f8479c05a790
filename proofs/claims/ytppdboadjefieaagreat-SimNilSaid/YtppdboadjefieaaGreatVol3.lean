/- Looks of a volume; Rerig and Rig over a new disk (chapter 26). -/
import Derived.Test.YtppdboadjefieaaGreatVol2
import Derived.Test.YtppdboadjefieaaGreatDisk6
import Derived.Test.YtppdboadjefieaaGreatJour6
namespace Go.Proofs.YtppdboadjefieaaGreat
set_option linter.unusedSimpArgs false
set_option linter.unusedVariables false
open Go Go.RowKit
set_option linter.unusedVariables false
set_option maxRecDepth 100000

theorem vol_there (vb jb bb : Nat) (key data : ByteArray) (xv sv cv rv : Value) (w : World) (h : Blk w vb [.pointer (some ⟨jb, 0, none⟩), .string key, .string data, xv, sv, .pointer (some ⟨bb, 0, none⟩), cv, rv] 50) :
    Calls Tryz.prog 55 #[.pointer (some ⟨vb, 0, none⟩)] w fun e w' => e = .returned (.bool true) ∧ w = w' := by
  have c0 := h.cell (i := 0) rfl
  have c5 := h.cell (i := 5) rfl
  go_enter Tryz.func55, Tryz.ntmps55
  go_wp2_with fail
  go_ret
  exact ⟨rfl, rfl⟩
set_option maxHeartbeats 1000000 in
theorem vol_secrets (vb jb bb c2 m1 m2 m3 : Nat) (first epoch : Int) (key data : ByteArray) (xv sv cv rv : Value) (w : World) (h : Blk w vb [.pointer (some ⟨jb, 0, none⟩), .string key, .string data, xv, sv, .pointer (some ⟨bb, 0, none⟩), cv, rv] 50) (hb : Blk w bb (bookCells c2 first epoch m1 m2 m3) 213) :
    Calls Tryz.prog 21 #[.pointer (some ⟨vb, 0, none⟩)] w fun e w' => e = .returned (.tuple #[.int .i64 epoch, .string key, .string data]) ∧ w' = w.drew := by
  go_enter Tryz.func21, Tryz.ntmps21
  go_wp2_with fail
  refine (vol_there vb jb bb key data xv sv cv rv _ h).mono ?_
  rintro e w' ⟨rfl, rfl⟩
  go_wp2_with fail
  refine wp_region_held_drew (S := fun wx => wx.cell? ⟨vb, 5, none⟩ = some (.pointer (some ⟨bb, 0, none⟩)) ∧ wx.cell? ⟨vb, 1, none⟩ = some (.string key) ∧ wx.cell? ⟨vb, 2, none⟩ = some (.string data)) (by kernel_rfl) (⟨h.drew.cell (i := 5) rfl, h.drew.cell (i := 1) rfl, h.drew.cell (i := 2) rfl⟩) (fun hHeld => ?_)
  refine wpAnyH_take (i := 0) (v := ?_) rfl (by kernel_rfl) (by kernel_rfl) (by kernel_rfl) (fun _ _ _ h => h) (Or.inl ⟨by rfl, ?_⟩) (by assumption) ?_
  rotate_left
  · intro w hSw; (try dsimp only at hSw); go_simp; first | done | with_reducible rfl
  (try simp only [Act.put, Array.getInternal_eq_getElem, List.getElem_toArray, List.getElem_cons_succ, List.getElem_cons_zero, List.setIfInBounds_toArray, List.set_cons_zero, List.set_cons_succ])
  refine wpAnyH_take (i := 1) (v := ?_) rfl (by kernel_rfl) (by kernel_rfl) (by kernel_rfl) (fun _ _ _ h => h) (Or.inl ⟨by rfl, ?_⟩) (by assumption) ?_
  rotate_left
  · intro w hSw; (try dsimp only at hSw); go_simp; first | done | with_reducible rfl
  (try simp only [Act.put, Array.getInternal_eq_getElem, List.getElem_toArray, List.getElem_cons_succ, List.getElem_cons_zero, List.setIfInBounds_toArray, List.set_cons_zero, List.set_cons_succ])
  refine wpAnyH_take (i := 2) (v := ?_) rfl (by kernel_rfl) (by kernel_rfl) (by kernel_rfl) (fun _ _ _ h => h) (Or.inl ⟨by rfl, ?_⟩) (by assumption) ?_
  rotate_left
  · intro w hSw; (try dsimp only at hSw); go_simp; first | done | with_reducible rfl
  (try simp only [Act.put, Array.getInternal_eq_getElem, List.getElem_toArray, List.getElem_cons_succ, List.getElem_cons_zero, List.setIfInBounds_toArray, List.set_cons_zero, List.set_cons_succ])
  refine wpAnyH_take (i := 3) (v := ?_) rfl (by kernel_rfl) (by kernel_rfl) (by kernel_rfl) (fun _ _ _ h => h) (Or.inl ⟨by rfl, ?_⟩) (by assumption) ?_
  rotate_left
  · intro w hSw; (try dsimp only at hSw); go_simp; first | done | with_reducible rfl
  (try simp only [Act.put, Array.getInternal_eq_getElem, List.getElem_toArray, List.getElem_cons_succ, List.getElem_cons_zero, List.setIfInBounds_toArray, List.set_cons_zero, List.set_cons_succ])
  refine wpAnyH_take (i := 5) (v := ?_) rfl (by kernel_rfl) (by kernel_rfl) (by kernel_rfl) (fun _ _ _ h => h) (Or.inl ⟨by rfl, ?_⟩) (by assumption) ?_
  rotate_left
  · intro w hSw; (try dsimp only at hSw); go_simp; first | done | with_reducible rfl
  (try simp only [Act.put, Array.getInternal_eq_getElem, List.getElem_toArray, List.getElem_cons_succ, List.getElem_cons_zero, List.setIfInBounds_toArray, List.set_cons_zero, List.set_cons_succ])
  refine wpAnyH_take (i := 6) (v := ?_) rfl (by kernel_rfl) (by kernel_rfl) (by kernel_rfl) (fun _ _ _ h => h) (Or.inl ⟨by rfl, ?_⟩) (by assumption) ?_
  rotate_left
  · intro w hSw; (try dsimp only at hSw); go_simp; first | done | with_reducible rfl
  (try simp only [Act.put, Array.getInternal_eq_getElem, List.getElem_toArray, List.getElem_cons_succ, List.getElem_cons_zero, List.setIfInBounds_toArray, List.set_cons_zero, List.set_cons_succ])
  refine wpAnyH_take (i := 7) (v := ?_) rfl (by kernel_rfl) (by kernel_rfl) (by kernel_rfl) (fun _ _ _ h => h) (Or.inl ⟨by rfl, ?_⟩) (by assumption) ?_
  rotate_left
  · intro w hSw; (try dsimp only at hSw); go_simp; first | done | with_reducible rfl
  (try simp only [Act.put, Array.getInternal_eq_getElem, List.getElem_toArray, List.getElem_cons_succ, List.getElem_cons_zero, List.setIfInBounds_toArray, List.set_cons_zero, List.set_cons_succ])
  refine wpAnyH_take (i := 8) (v := ?_) rfl (by kernel_rfl) (by kernel_rfl) (by kernel_rfl) (fun _ _ _ h => h) (Or.inl ⟨by rfl, ?_⟩) (by assumption) ?_
  rotate_left
  · intro w hSw; (try dsimp only at hSw); go_simp; first | done | with_reducible rfl
  (try simp only [Act.put, Array.getInternal_eq_getElem, List.getElem_toArray, List.getElem_cons_succ, List.getElem_cons_zero, List.setIfInBounds_toArray, List.set_cons_zero, List.set_cons_succ])
  refine wpAnyH_take (i := 9) (v := ?_) rfl (by kernel_rfl) (by kernel_rfl) (by kernel_rfl) (fun _ _ _ h => h) (Or.inl ⟨by rfl, ?_⟩) (by assumption) ?_
  rotate_left
  · intro w hSw; (try dsimp only at hSw); go_simp; first | done | with_reducible rfl
  (try simp only [Act.put, Array.getInternal_eq_getElem, List.getElem_toArray, List.getElem_cons_succ, List.getElem_cons_zero, List.setIfInBounds_toArray, List.set_cons_zero, List.set_cons_succ])
  refine wpAnyH_take (i := 10) (v := ?_) rfl (by kernel_rfl) (by kernel_rfl) (by kernel_rfl) (fun _ _ _ h => h) (Or.inl ⟨by rfl, ?_⟩) (by assumption) ?_
  rotate_left
  · intro w hSw; (try dsimp only at hSw); go_simp; first | done | with_reducible rfl
  (try simp only [Act.put, Array.getInternal_eq_getElem, List.getElem_toArray, List.getElem_cons_succ, List.getElem_cons_zero, List.setIfInBounds_toArray, List.set_cons_zero, List.set_cons_succ])
  refine wpAnyH_take (i := 11) (v := ?_) rfl (by kernel_rfl) (by kernel_rfl) (by kernel_rfl) (fun _ _ _ h => h) (Or.inl ⟨by rfl, ?_⟩) (by assumption) ?_
  rotate_left
  · intro w hSw; (try dsimp only at hSw); go_simp; first | done | with_reducible rfl
  (try simp only [Act.put, Array.getInternal_eq_getElem, List.getElem_toArray, List.getElem_cons_succ, List.getElem_cons_zero, List.setIfInBounds_toArray, List.set_cons_zero, List.set_cons_succ])
  refine wpAnyH_take (i := 12) (v := ?_) rfl (by kernel_rfl) (by kernel_rfl) (by kernel_rfl) (fun _ _ _ h => h) (Or.inl ⟨by rfl, ?_⟩) (by assumption) ?_
  rotate_left
  · intro w hSw; (try dsimp only at hSw); go_simp; first | done | with_reducible rfl
  (try simp only [Act.put, Array.getInternal_eq_getElem, List.getElem_toArray, List.getElem_cons_succ, List.getElem_cons_zero, List.setIfInBounds_toArray, List.set_cons_zero, List.set_cons_succ])
  refine wpAnyH_ready (rs := [4]) (by kernel_rfl) (by simp) ?_
  refine AllReadyH.cons rfl (fun K hK => ?_) AllReadyH.nil
  go_simp
  refine (bookEpoch_walk bb c2 first epoch m1 m2 m3 _ hb.drew).mono ?_
  rintro e w' ⟨rfl, rfl⟩
  (try go_wp2_with fail)
  refine hK.out _ _ (⟨h.drew.cell (i := 5) rfl, h.drew.cell (i := 1) rfl, h.drew.cell (i := 2) rfl⟩) (fun hHeld2 => ?_)
  clear hK K hHeld
  have hHeld := hHeld2
  clear hHeld2
  (try simp only [Act.put, Array.getInternal_eq_getElem, List.getElem_toArray, List.getElem_cons_succ, List.getElem_cons_zero, List.setIfInBounds_toArray, List.set_cons_zero, List.set_cons_succ])
  refine wpAnyH_take (i := 13) (v := ?_) rfl (by kernel_rfl) (by kernel_rfl) (by kernel_rfl) (fun _ _ _ h => h) (Or.inl ⟨by rfl, ?_⟩) (by assumption) ?_
  rotate_left
  · intro w hSw; (try dsimp only at hSw); go_simp; first | done | with_reducible rfl
  (try simp only [Act.put, Array.getInternal_eq_getElem, List.getElem_toArray, List.getElem_cons_succ, List.getElem_cons_zero, List.setIfInBounds_toArray, List.set_cons_zero, List.set_cons_succ])
  refine wpAnyH_take (i := 14) (v := ?_) rfl (by kernel_rfl) (by kernel_rfl) (by kernel_rfl) (fun _ _ _ h => h) (Or.inl ⟨by rfl, ?_⟩) (by assumption) ?_
  rotate_left
  · intro w hSw; (try dsimp only at hSw); go_simp; first | done | with_reducible rfl
  (try simp only [Act.put, Array.getInternal_eq_getElem, List.getElem_toArray, List.getElem_cons_succ, List.getElem_cons_zero, List.setIfInBounds_toArray, List.set_cons_zero, List.set_cons_succ])
  refine wpAnyH_take (i := 15) (v := ?_) rfl (by kernel_rfl) (by kernel_rfl) (by kernel_rfl) (fun _ _ _ h => h) (Or.inl ⟨by rfl, ?_⟩) (by assumption) ?_
  rotate_left
  · intro w hSw; (try dsimp only at hSw); go_simp; first | done | with_reducible rfl
  (try simp only [Act.put, Array.getInternal_eq_getElem, List.getElem_toArray, List.getElem_cons_succ, List.getElem_cons_zero, List.setIfInBounds_toArray, List.set_cons_zero, List.set_cons_succ])
  refine wpAnyH_done (by kernel_rfl) ?_ _
  clear hHeld
  go_wp2_with fail
  (try simp only [Exit.inBlock, Exit.then]); refine bodyPost_ret (results_tmp3 rfl _ _ _) rfl ⟨rfl, rfl⟩
theorem cloneSealed0 (w : World) :
    Calls Tryz.prog 86 #[.slice none 0 0] w fun e w' => e = .returned (.slice none 0 0) ∧ w = w' := by
  have hnn : ∀ w, (binOp .eql 45 (.slice none 0 0) (.slice none 0 0)).run Tryz.prog w = .ok (.bool true) w := fun w => Lib.run_eql_slice_nil w 45 98 none 0 0 0 0 Tryz.underlying45
  go_enter Tryz.func86, Tryz.ntmps86
  go_wp2_with fail
  go_ret
  exact ⟨rfl, rfl⟩
theorem vol_sealed0 (vb jb bb : Nat) (key data : ByteArray) (xv cv rv : Value) (w : World) (h : Blk w vb [.pointer (some ⟨jb, 0, none⟩), .string key, .string data, xv, .slice none 0 0, .pointer (some ⟨bb, 0, none⟩), cv, rv] 50) :
    Calls Tryz.prog 27 #[.pointer (some ⟨vb, 0, none⟩)] w fun e w' => e = .returned (.slice none 0 0) ∧ w = w' := by
  have c4 := h.cell (i := 4) rfl
  go_enter Tryz.func27, Tryz.ntmps27
  go_wp2_with fail
  refine (vol_there vb jb bb key data xv (.slice none 0 0) cv rv _ h).mono ?_
  rintro e w' ⟨rfl, rfl⟩
  go_wp2_with fail
  refine (cloneSealed0 _).mono ?_
  rintro e w' ⟨rfl, rfl⟩
  go_wp2_with fail
  go_ret
  exact ⟨rfl, rfl⟩
/-- What a place of a formatted disk shows. -/
theorem form_shown1 (n : Nat) (v : Value) (i : Nat) (kb q : ByteArray) (h : 2 ≤ n) : (formDisk n v i kb q).shown 1 = q := by
  show (((List.replicate n noughtB).set i kb).set 1 q).getD 1 ByteArray.empty = q
  rw [List.getD, List.getElem?_set_self (by simp; omega)]
  rfl
theorem form_shownK (n : Nat) (v : Value) (i : Nat) (kb q : ByteArray) (h : i < n) (h1 : i ≠ 1) : (formDisk n v i kb q).shown (i : Int) = kb := by
  show (((List.replicate n noughtB).set i kb).set 1 q).getD i ByteArray.empty = kb
  rw [List.getD, List.getElem?_set_ne (by omega), List.getElem?_set_self (by simp; omega)]
  rfl
theorem form_shown0 (n : Nat) (v : Value) (i j : Nat) (kb q : ByteArray) (h : j < n) (h1 : j ≠ 1) (h2 : j ≠ i) : (formDisk n v i kb q).shown (j : Int) = (⟨(List.replicate 4096 0).toArray⟩ : ByteArray) := by
  show (((List.replicate n noughtB).set i kb).set 1 q).getD j ByteArray.empty = noughtB
  rw [List.getD, List.getElem?_set_ne (by omega), List.getElem?_set_ne (by omega)]
  simp [h]
theorem form_len (n : Nat) (v : Value) (i : Nat) (kb q : ByteArray) : (formDisk n v i kb q).bs.length = n := by
  show (((List.replicate n noughtB).set i kb).set 1 q).length = n
  simp
theorem sup_form {n ep : Nat} {lbas : Int} (hg : GeoOk ⟨(n : Int), lbas, (ep : Int)⟩) : SupOk (⟨1, ((0 : Nat) : Int), (ep : Int), 0, ⟨(n : Int), lbas, (ep : Int)⟩⟩ : SupD) := by
  have h8 := hg.b0
  have h1 := hg.f1
  simp only at h8 h1
  refine ⟨hg, ?_, ?_, ?_, ?_, ?_, ?_, ?_, ?_⟩ <;> (try simp only) <;> omega
/-- What the mount of a formatted disk wants. -/
theorem form_found (db n ep : Nat) (lbas : Int) (v : Value) (key kb q : ByteArray) (hg : GeoOk ⟨(n : Int), lbas, (ep : Int)⟩) (hk : key.size = 32) (tk : Txt kb (keyL (ep : Int) key.data.toList)) (tq : Txt q (supL ⟨1, 0, ep, 0, ⟨(n : Int), lbas, (ep : Int)⟩⟩)) :
    ∀ wx, DiskAt wx db (formDisk n v (2 + ep % 2) kb q) → Calls Tryz.prog 262 #[.pointer (some ⟨db, 0, none⟩)] wx fun e w' => e = .returned (.tuple #[(⟨1, ((0 : Nat) : Int), (ep : Int), 0, ⟨(n : Int), lbas, (ep : Int)⟩⟩ : SupD).v, .string key, .int .i64 0]) ∧ Below wx.heap.size wx w' := by
  intro wx hx
  have h8 : 8 ≤ n := by have := hg.b0; simp only at this; omega
  have h9 : n ≤ 1024 := by have := hg.b1; simp only at this; omega
  have hl := form_len n v (2 + ep % 2) kb q
  refine found_walk db _ ⟨1, ((0 : Nat) : Int), (ep : Int), 0, ⟨(n : Int), lbas, (ep : Int)⟩⟩ ep key wx hx rfl (Nat.zero_le _) (by rw [hl]; exact h9) (by rw [hl]; omega) (sup_form hg) rfl (by rw [hl]) (form_shown0 n v _ 0 kb q (by omega) (by omega) (by omega)) ?_ hk ?_
  · rw [form_shown1 n v _ kb q (by omega)]; exact tq
  · by_cases hp : ep % 2 = 0
    · have e2 : (formDisk n v (2 + ep % 2) kb q).shown 2 = kb := by have := form_shownK n v (2 + ep % 2) kb q (by omega) (by omega); rw [hp] at this ⊢; exact this
      simp only [hp, if_true]
      rw [hp] at e2
      rw [e2]; exact tk
    · have h1 : ep % 2 = 1 := by omega
      have e2 : (formDisk n v (2 + ep % 2) kb q).shown 3 = kb := by have := form_shownK n v (2 + ep % 2) kb q (by omega) (by omega); rw [h1] at this ⊢; exact this
      rw [if_neg hp]
      rw [e2]; exact tk
theorem form_stale (n ep : Nat) (v : Value) (kb q : ByteArray) (h8 : 8 ≤ n) : (if ep % 2 = 0 then (formDisk n v (2 + ep % 2) kb q).shown 3 else (formDisk n v (2 + ep % 2) kb q).shown 2) = (⟨(List.replicate 4096 0).toArray⟩ : ByteArray) := by
  by_cases hp : ep % 2 = 0
  · rw [if_pos hp]; exact form_shown0 n v _ 3 kb q (by omega) (by omega) (by omega)
  · rw [if_neg hp]; exact form_shown0 n v _ 2 kb q (by omega) (by omega) (by omega)
theorem VolNew.lower {w : World} {lo lo' vb jb sb db xb bb cb c2 m1 m2 m3 : Nat} {ro : Option Addr} {key data : ByteArray} {gen clock n lbas first ep : Int} {d : DiskD} (h : VolNew w lo vb jb sb db xb bb cb c2 m1 m2 m3 ro key data gen clock n lbas first ep d) (hl : lo' ≤ lo) : VolNew w lo' vb jb sb db xb bb cb c2 m1 m2 m3 ro key data gen clock n lbas first ep d :=
  ⟨h.vol, h.jour, h.space, h.disk, h.index, h.book, h.bclock, h.clock, ⟨Nat.le_trans hl h.o.1, h.o.2⟩⟩
theorem VolNew.below {w w' : World} {lo vb jb sb db xb bb cb c2 m1 m2 m3 : Nat} {ro : Option Addr} {key data : ByteArray} {gen clock n lbas first ep : Int} {d : DiskD} (h : VolNew w lo vb jb sb db xb bb cb c2 m1 m2 m3 ro key data gen clock n lbas first ep d) (hb : Below w.heap.size w w') : VolNew w' lo vb jb sb db xb bb cb c2 m1 m2 m3 ro key data gen clock n lbas first ep d :=
  ⟨h.vol.below hb h.vol.lt, h.jour.below hb h.jour.lt, h.space.below hb h.space.lt, h.disk.below hb, h.index.below hb h.index.lt, h.book.below hb h.book.lt, h.bclock.below hb h.bclock.lt, h.clock.below hb h.clock.lt, h.o⟩
/-- A formatted disk is mounted. -/
theorem form_mount (db n ep : Nat) (ro : Option Addr) (lbas : Int) (v : Value) (key data kb q : ByteArray) (w : World) (hg : GeoOk ⟨(n : Int), lbas, (ep : Int)⟩) (hk : key.size = 32) (tk : Txt kb (keyL (ep : Int) key.data.toList)) (tq : Txt q (supL ⟨1, 0, ep, 0, ⟨(n : Int), lbas, (ep : Int)⟩⟩))
    (hdata : data.size = 16) (h : DiskAt w db (formDisk n v (2 + ep % 2) kb q)) :
    Calls Tryz.prog 81 #[.pointer (some ⟨db, 0, none⟩), .string data, .pointer ro] w fun e w' => (∃ vb jb sb xb bb cb c2 m1 m2 m3, e = .returned (.tuple #[.pointer (some ⟨vb, 0, none⟩), .int .i64 0]) ∧ VolNew w' w.heap.size vb jb sb db xb bb cb c2 m1 m2 m3 ro key data 1 0 n lbas ep ep (formDisk n v (2 + ep % 2) kb q)) ∧ Below w.heap.size w w' := by
  have h8 : 8 ≤ n := by have := hg.b0; simp only at this; omega
  have h9 : n ≤ 1024 := by have := hg.b1; simp only at this; omega
  have hl := form_len n v (2 + ep % 2) kb q
  exact mount0_walk db n ep ro 1 0 lbas (ep : Int) key data _ w h hdata rfl (sup_form hg) rfl (Nat.zero_le _) (by rw [hl]; exact h9) hl (fun i h4 hi => form_shown0 n v _ i kb q hi (by omega) (by omega)) (form_stale n ep v kb q h8) (form_found db n ep lbas v key kb q hg hk tk tq)
theorem sizeRing {a b c : Value} : (Tryz.prog.info? 114).map (·.size) = some [a, b, c].length := by kernel_rfl
set_option maxHeartbeats 1000000 in
/-- Rerig, where a ring has no tags. -/
theorem rerig_walk (db n ep : Nat) (lbas re : Int) (v : Value) (key rkey data kb q : ByteArray) (w : World) (hg : GeoOk ⟨(n : Int), lbas, (ep : Int)⟩) (hk : key.size = 32) (hrk : rkey.size = 32) (tk : Txt kb (keyL (ep : Int) key.data.toList)) (tq : Txt q (supL ⟨1, 0, ep, 0, ⟨(n : Int), lbas, (ep : Int)⟩⟩))
    (hdata : data.size = 16) (h : DiskAt w db (formDisk n v (2 + ep % 2) kb q)) :
    Calls Tryz.prog 44 #[.pointer (some ⟨db, 0, none⟩), .string data, .agg #[.int .i64 re, .string rkey, .slice none 0 0]] w fun e w' => (∃ rb vb jb sb xb bb cb c2 m1 m2 m3 tv, e = .returned (.tuple #[.pointer (some ⟨vb, 0, none⟩), .int .i64 0]) ∧ VolNew w' w.heap.size vb jb sb db xb bb cb c2 m1 m2 m3 (some ⟨rb, 0, none⟩) key data 1 0 n lbas ep ep (formDisk n v (2 + ep % 2) kb q) ∧ Blk w' rb [.int .i64 re, .string rkey, tv] 114 ∧ ∃ p c, tv = .slice p 0 c) ∧ Below w.heap.size w w' := by
  have hrk' : (rkey.size : Int) = 32 := by omega
  have HD := Lib.hid h
  have HG := Lib.hid hg
  have HK := Lib.hid hk
  have HDA := Lib.hid hdata
  have HTK := Lib.hid tk
  have HTQ := Lib.hid tq
  clear h hg hk hdata tk tq hrk
  go_enter Tryz.func44, Tryz.ntmps44
  go_wp2_with (first
    | ((with_reducible refine wpList_box_new 114 (.tmp 2) [.int .i64 re, .string rkey, .slice none 0 0] (some 5) ?hgd ?ho ?hd ?hx ?_); (case hgd => rfl); (case ho => rfl); (case hd => rfl); (case hx => rfl); (intro b5 w1 l1 B1 e1 z1; have q1 := B1.cell (i := 1) rfl; have q2 := B1.cell (i := 2) rfl))
    | fail)
  have HB1 := Lib.hid B1
  have HBE := Lib.hid (e1.mono l1)
  have HL := Lib.hid l1
  clear B1 e1 z1 l1 q1 q2
  refine (cloneStrs_walk (.slice none 0 0) 0 [] _ (World.ownsRow_nil _ _ _ _) (by omega)).mono ?_
  rintro e w2 ⟨⟨v', rfl, hv⟩, hb2⟩
  obtain ⟨tp, tc, rfl⟩ := own_nil hv
  have HB2 := Lib.hid (HB1.out.below hb2 HB1.out.lt)
  have HBE2 := Lib.hid (HBE.out.trans (hb2.mono HBE.out.size))
  clear hv hb2
  have k2 := HB2.out.cell (i := 2) rfl
  have f2 := HB2.out.free 2
  go_wp2_with fail
  obtain ⟨w3, hw3⟩ : ∃ w3, w2.setCell ⟨b5, 2, none⟩ (.slice tp 0 tc) = w3 := ⟨_, rfl⟩
  have HB3 := Lib.hid (show Blk w3 b5 [.int .i64 re, .string rkey, .slice tp 0 tc] 114 from by rw [← hw3]; exact (HB2.out.set 2 _).ext rfl)
  have HBE3 := Lib.hid (show Below w.heap.size w w3 from by rw [← hw3]; exact HBE2.out.setCell (p := ⟨b5, 2, none⟩) HL.out _)
  rw [hw3]
  clear hw3 k2 f2
  refine (form_mount db n ep (some ⟨b5, 0, none⟩) lbas v key data kb q _ HG.out HK.out HTK.out HTQ.out HDA.out (HD.out.below HBE3.out)).mono ?_
  rintro e w4 ⟨⟨vb, jb, sb, xb, bb, cb, c2, m1, m2, m3, rfl, hv⟩, hb4⟩
  have HV := Lib.hid hv
  have HB4 := Lib.hid (HB3.out.below hb4 HB3.out.lt)
  have HBE4 := Lib.hid (HBE3.out.trans (hb4.mono HBE3.out.size))
  clear hv hb4
  go_wp2_with fail
  go_ret2
  exact ⟨⟨b5, vb, jb, sb, xb, bb, cb, c2, m1, m2, m3, _, rfl, HV.out.lower HBE3.out.size, HB4.out, tp, tc, rfl⟩, HBE4.out⟩
set_option maxHeartbeats 4000000 in
/-- Rig over a new disk, where a ring has no tags; key: what the ring's next is for the first epoch. -/
theorem rig_walk (db n ep : Nat) (lbas re : Int) (v : Value) (key rkey data : ByteArray) (w : World) (hg : GeoOk ⟨(n : Int), lbas, (ep : Int)⟩) (hk : key.size = 32) (hrk : rkey.size = 32) (hre : (ep : Int) ≤ re)
    (hdata : data.size = 16) (h : DiskAt w db (newDisk n v))
    (hnx : ∀ (rb : Nat) (was : ByteArray) (wx : World), Blk wx rb [.int .i64 re, .string rkey, .slice none 0 0] 114 → Calls Tryz.prog 63 #[.pointer (some ⟨rb, 0, none⟩), .int .i64 (ep : Int), .string was] wx fun e w' => e = .returned (.string key) ∧ Below wx.heap.size wx w') :
    Calls Tryz.prog 41 #[.pointer (some ⟨db, 0, none⟩), (⟨(n : Int), lbas, (ep : Int)⟩ : GeoD).v, .string data, .agg #[.int .i64 re, .string rkey, .slice none 0 0]] w fun e w' => (∃ rb vb jb sb xb bb cb c2 m1 m2 m3 tv v2 kb q, e = .returned (.tuple #[.pointer (some ⟨vb, 0, none⟩), .int .i64 0]) ∧ Txt kb (keyL (ep : Int) key.data.toList) ∧ Txt q (supL ⟨1, 0, ep, 0, ⟨(n : Int), lbas, (ep : Int)⟩⟩) ∧ DiskTo w w' db (newDisk n v) (formDisk n v2 (2 + ep % 2) kb q) ∧ VolNew w' w.heap.size vb jb sb db xb bb cb c2 m1 m2 m3 (some ⟨rb, 0, none⟩) key data 1 0 n lbas ep ep (formDisk n v2 (2 + ep % 2) kb q) ∧ Blk w' rb [.int .i64 re, .string rkey, tv] 114 ∧ ∃ p c, tv = .slice p 0 c) := by
  have hrk' : (rkey.size : Int) = 32 := by omega
  have hda' : (data.size : Int) = 16 := by omega
  obtain ⟨g, Hg⟩ : ∃ g, Hid (g = (⟨(n : Int), lbas, (ep : Int)⟩ : GeoD)) := ⟨_, rfl⟩
  have HGF := Lib.hid (show g.first = (ep : Int) by rw [Hg.out])
  have HDw := Lib.hid h
  have HG := Lib.hid hg
  have HK := Lib.hid hk
  have HRK := Lib.hid hrk
  have HDA := Lib.hid hdata
  have HNX := Lib.hid hnx
  have HRE := Lib.hid hre
  have hfo : ∀ wx, DiskAt wx db (newDisk n v) → Calls Tryz.prog 80 #[.pointer (some ⟨db, 0, none⟩), .agg g.cells.toArray, .string key] wx fun e w' => e = .returned (.int .i64 0) ∧ ∃ kb q, Txt kb (keyL (ep : Int) key.data.toList) ∧ Txt q (supL ⟨1, 0, ep, 0, (⟨(n : Int), lbas, (ep : Int)⟩ : GeoD)⟩) ∧ DiskTo wx w' db (newDisk n v) (formDisk n v (2 + ep % 2) kb q) := by
    intro wx hx
    rw [Hg.out]
    exact format_walk db n ep lbas v key wx hx hg hk
  have HFO := Lib.hid hfo
  rw [← Hg.out]
  rw [← Hg.out] at hg
  have HGG := Lib.hid hg
  clear h hg hk hdata hnx hrk hre hfo
  go_enter Tryz.func41, Tryz.ntmps41
  go_wp2_with (first
    | ((with_reducible refine wpList_box_new 23 (.tmp 1) g.cells (some 5) ?hgd ?ho ?hd ?hx ?_); (case hgd => rfl); (case ho => rfl); (case hd => rfl); (case hx => rfl); (intro b5 wa l5 B5 e5 z5))
    | ((with_reducible refine wpList_box_new 114 (.tmp 3) [.int .i64 re, .string rkey, .slice none 0 0] (some 7) ?hgd ?ho ?hd ?hx ?_); (case hgd => rfl); (case ho => rfl); (case hd => rfl); (case hx => rfl); (intro b7 wb l7 B7 e7 z7; have B5' := B5.below e7 (Nat.lt_of_lt_of_le z5 l7)))
    | ((with_reducible refine wpList_load_blk 23 (.tmp 5) b5 g.cells 23 _ B5' Tryz.underlying23 rfl sizeGeo ?hgd ?ho ?hx ?_); (case hgd => rfl); (case ho => rfl); (case hx => rfl))
    | fail)
  have HL5 := Lib.hid l5
  have HL7 := Lib.hid (show w.heap.size ≤ b7 from Nat.le_trans l5 (Nat.le_of_lt (Nat.lt_of_lt_of_le z5 l7)))
  have HGwb := Lib.hid B5'
  have HRwb := Lib.hid B7
  have hbb : Below w.heap.size w wb := (e5.mono l5).trans (e7.mono HL7.out)
  have HDwb := Lib.hid (HDw.out.below hbb)
  have HBEwb := Lib.hid hbb
  clear B5 B5' B7 e5 e7 z5 z7 l5 l7 hbb
  refine (geomCheck_walk g _ HGG.out).mono ?_
  rintro e wc ⟨rfl, hbc⟩
  have HRwc := Lib.hid (HRwb.out.below hbc HRwb.out.lt)
  have HGwc := Lib.hid (HGwb.out.below hbc HGwb.out.lt)
  have HDwc := Lib.hid (HDwb.out.below hbc)
  have HBEwc := Lib.hid (HBEwb.out.trans (hbc.mono HBEwb.out.size))
  clear hbc
  have q0 := HRwc.out.cell (i := 0) rfl
  have q1 := HRwc.out.cell (i := 1) rfl
  have q2 : wc.cell? ⟨b5, 2, none⟩ = some (.int .i64 (ep : Int)) := by rw [← HGF.out]; exact HGwc.out.cell (i := 2) rfl
  have hre2 := HRE.out
  go_upto_region 3 with fail
  clear q0 q1 q2 hre2
  have hfo := HFO.out
  refine wp_region_held_drew (S := fun wx => wx.rangeAt b5 0 g.cells ∧ wx.cell? ⟨b5, 2, none⟩ = some (.int .i64 (ep : Int))) (by kernel_rfl) (⟨HGwc.out.drew.range, by rw [← HGF.out]; exact HGwc.out.drew.cell (i := 2) rfl⟩) (fun hHeld => ?_)
  obtain ⟨wd, hwd⟩ : ∃ wd, wd = wc.drew := ⟨_, rfl⟩
  have hbw : Below wc.heap.size wc wd := by rw [hwd]; exact (Below.refl _ _).drew
  have HRwd := Lib.hid (HRwc.out.below hbw HRwc.out.lt)
  have HGwd := Lib.hid (HGwc.out.below hbw HGwc.out.lt)
  have HDwd := Lib.hid (HDwc.out.below hbw)
  have HBEwd := Lib.hid (HBEwc.out.trans (hbw.mono HBEwc.out.size))
  rw [← hwd]
  rw [← hwd] at hHeld
  clear hwd hbw
  refine wpAnyH_take (i := 0) (v := ?_) rfl (by kernel_rfl) (by kernel_rfl) (by kernel_rfl) (fun _ _ _ h => h) (Or.inl ⟨by rfl, ?_⟩) (by assumption) ?_
  rotate_left
  · intro w hSw; (try dsimp only at hSw); go_simp; first | done | with_reducible rfl
  (try simp only [Act.put, Array.getInternal_eq_getElem, List.getElem_toArray, List.getElem_cons_succ, List.getElem_cons_zero, List.setIfInBounds_toArray, List.set_cons_zero, List.set_cons_succ])
  refine wpAnyH_take (i := 1) (v := .agg (g.cells).toArray) rfl (by kernel_rfl) (by kernel_rfl) (by kernel_rfl) (fun _ _ _ h => h) (yieldsIf_load_mid (by rfl) 23 (.tmp 5) rfl b5 0 rfl (g.cells) _ (fun w h => h.1) Tryz.underlying23 rfl sizeGeo) (by assumption) ?_
  (try simp only [Act.put, Array.getInternal_eq_getElem, List.getElem_toArray, List.getElem_cons_succ, List.getElem_cons_zero, List.setIfInBounds_toArray, List.set_cons_zero, List.set_cons_succ])
  refine wpAnyH_take (i := 2) (v := ?_) rfl (by kernel_rfl) (by kernel_rfl) (by kernel_rfl) (fun _ _ _ h => h) (Or.inl ⟨by rfl, ?_⟩) (by assumption) ?_
  rotate_left
  · intro w hSw; (try dsimp only at hSw); go_simp; first | done | with_reducible rfl
  (try simp only [Act.put, Array.getInternal_eq_getElem, List.getElem_toArray, List.getElem_cons_succ, List.getElem_cons_zero, List.setIfInBounds_toArray, List.set_cons_zero, List.set_cons_succ])
  refine wpAnyH_take (i := 3) (v := ?_) rfl (by kernel_rfl) (by kernel_rfl) (by kernel_rfl) (fun _ _ _ h => h) (Or.inl ⟨by rfl, ?_⟩) (by assumption) ?_
  rotate_left
  · intro w hSw; (try dsimp only at hSw); go_simp; first | done | with_reducible rfl
  (try simp only [Act.put, Array.getInternal_eq_getElem, List.getElem_toArray, List.getElem_cons_succ, List.getElem_cons_zero, List.setIfInBounds_toArray, List.set_cons_zero, List.set_cons_succ])
  refine wpAnyH_ready (rs := [4]) (by kernel_rfl) (by simp) ?_
  refine AllReadyH.cons rfl (fun K hK => ?_) AllReadyH.nil
  go_simp
  refine (volNoughts_walk _).mono ?_
  rintro e we ⟨⟨was, rfl, tz⟩, hbe⟩
  have HRwe := Lib.hid (HRwd.out.below hbe HRwd.out.lt)
  have HGwe := Lib.hid (HGwd.out.below hbe HGwd.out.lt)
  have HDwe := Lib.hid (HDwd.out.below hbe)
  have HBEwe := Lib.hid (HBEwd.out.trans (hbe.mono HBEwd.out.size))
  clear hbe tz
  (try go_wp2_with fail)
  refine hK.out _ _ (⟨HGwe.out.range, by rw [← HGF.out]; exact HGwe.out.cell (i := 2) rfl⟩) (fun hHeld2 => ?_)
  clear hK K hHeld
  have hHeld := hHeld2
  clear hHeld2
  (try simp only [Act.put, Array.getInternal_eq_getElem, List.getElem_toArray, List.getElem_cons_succ, List.getElem_cons_zero, List.setIfInBounds_toArray, List.set_cons_zero, List.set_cons_succ])
  refine wpAnyH_ready (rs := [5]) (by kernel_rfl) (by simp) ?_
  refine AllReadyH.cons rfl (fun K hK => ?_) AllReadyH.nil
  go_simp
  refine (HNX.out b7 was _ HRwe.out).mono ?_
  rintro e wf ⟨rfl, hbf⟩
  have HRwf := Lib.hid (HRwe.out.below hbf HRwe.out.lt)
  have HGwf := Lib.hid (HGwe.out.below hbf HGwe.out.lt)
  have HDwf := Lib.hid (HDwe.out.below hbf)
  have HBEwf := Lib.hid (HBEwe.out.trans (hbf.mono HBEwe.out.size))
  clear hbf
  (try go_wp2_with fail)
  refine hK.out _ _ (⟨HGwf.out.range, by rw [← HGF.out]; exact HGwf.out.cell (i := 2) rfl⟩) (fun hHeld2 => ?_)
  clear hK K hHeld
  have hHeld := hHeld2
  clear hHeld2
  (try simp only [Act.put, Array.getInternal_eq_getElem, List.getElem_toArray, List.getElem_cons_succ, List.getElem_cons_zero, List.setIfInBounds_toArray, List.set_cons_zero, List.set_cons_succ])
  refine wpAnyH_ready (rs := [6]) (by kernel_rfl) (by simp) ?_
  refine AllReadyH.cons rfl (fun K hK => ?_) AllReadyH.nil
  go_simp
  refine (hfo wf HDwf.out).mono ?_
  rintro e wg ⟨rfl, kb, q, tk, tq, ht⟩
  have HTO := Lib.hid ht
  have HTK := Lib.hid tk
  have HTQ := Lib.hid tq
  have HGwg := Lib.hid (ht.turned.blk HGwf.out (by intro hm; have := HDw.out.lt _ hm; have := HL5.out; omega))
  have HRwg := Lib.hid (ht.turned.blk HRwf.out (by intro hm; have := HDw.out.lt _ hm; have := HL7.out; omega))
  clear ht tk tq
  (try go_wp2_with fail)
  refine hK.out _ _ (⟨HGwg.out.range, by rw [← HGF.out]; exact HGwg.out.cell (i := 2) rfl⟩) (fun hHeld2 => ?_)
  clear hK K hHeld
  have hHeld := hHeld2
  clear hHeld2
  (try simp only [Act.put, Array.getInternal_eq_getElem, List.getElem_toArray, List.getElem_cons_succ, List.getElem_cons_zero, List.setIfInBounds_toArray, List.set_cons_zero, List.set_cons_succ])
  refine wpAnyH_take (i := 7) (v := ?_) rfl (by kernel_rfl) (by kernel_rfl) (by kernel_rfl) (fun _ _ _ h => h) (Or.inl ⟨by rfl, ?_⟩) (by assumption) ?_
  rotate_left
  · intro w hSw; (try dsimp only at hSw); go_simp; first | done | with_reducible rfl
  (try simp only [Act.put, Array.getInternal_eq_getElem, List.getElem_toArray, List.getElem_cons_succ, List.getElem_cons_zero, List.setIfInBounds_toArray, List.set_cons_zero, List.set_cons_succ])
  refine wpAnyH_done (by kernel_rfl) ?_ _
  clear hHeld
  go_wp2_with (first
    | ((with_reducible refine wpList_load_blk 114 (.tmp 7) b7 [.int .i64 re, .string rkey, .slice none 0 0] 114 _ HRwg.out Tryz.underlying114 rfl sizeRing ?hgd ?ho ?hx ?_); (case hgd => rfl); (case ho => rfl); (case hx => rfl))
    | fail)
  refine (rerig_walk db n ep lbas re v key rkey data kb q _ HG.out HK.out HRK.out HTK.out HTQ.out HDA.out HTO.out.at').mono ?_
  rintro e wk ⟨⟨rb, vb, jb, sb, xb, bb, cb, c2, m1, m2, m3, tv, rfl, hv, hrb, htv⟩, hbk⟩
  have HV := Lib.hid hv
  have HRB := Lib.hid (And.intro hrb htv)
  have HTO2 := Lib.hid ((DiskTo.ahead HBEwf.out HTO.out).below hbk)
  clear hv hrb htv hbk
  go_wp2_with fail
  go_ret2
  exact ⟨rb, vb, jb, sb, xb, bb, cb, c2, m1, m2, m3, tv, v, kb, q, rfl, HTK.out, (by rw [Hg.out]; exact HTQ.out), HTO2.out, HV.out.lower (Nat.le_trans HBEwf.out.size HTO.out.turned.size), HRB.out.1, HRB.out.2⟩
end Go.Proofs.YtppdboadjefieaaGreat
