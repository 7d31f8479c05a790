/- What a formatted disk has (chapter 25): found. -/
import Derived.Test.YtppdboadjefieaaGreatJour4
import Derived.Test.YtppdboadjefieaaGreatSupC
namespace Go.Proofs.YtppdboadjefieaaGreat
set_option linter.unusedSimpArgs false
set_option linter.unusedVariables false
open Go Go.RowKit
set_option linter.unusedVariables false
set_option maxRecDepth 100000

theorem zeroArr4 (w : World) : Sem.run Tryz.prog (zeroValue 383) w = .ok (.agg ([.string (⟨#[]⟩ : ByteArray), .string (⟨#[]⟩ : ByteArray), .string (⟨#[]⟩ : ByteArray), .string (⟨#[]⟩ : ByteArray)] : List Value).toArray) w := by kernel_rfl
set_option maxHeartbeats 4000000 in
theorem found_walk (db : Nat) (d : DiskD) (s : SupD) (n : Nat) (key : ByteArray) (w : World) (h : DiskAt w db d) (hd : d.down = false) (hc : d.cs.length ≤ 4096) (hb : d.bs.length ≤ 1024) (h4 : 4 ≤ d.bs.length)
    (hs : SupOk s) (hn : s.epoch = (n : Int)) (hg : s.geo.blocks = (d.bs.length : Int)) (h0 : d.shown 0 = (⟨(List.replicate 4096 0).toArray⟩ : ByteArray)) (h1 : Txt (d.shown 1) (supL s)) (hkl : key.size = 32) (hkey : Txt (if n % 2 = 0 then d.shown 2 else d.shown 3) (keyL n key.data.toList)) :
    Calls Tryz.prog 262 #[.pointer (some ⟨db, 0, none⟩)] w fun e w' => e = .returned (.tuple #[s.v, .string key, .int .i64 0]) ∧ Below w.heap.size w w' := by
  have HH := Lib.hid h
  have HD := Lib.hid hd
  have HC := Lib.hid hc
  have HB := Lib.hid hb
  have H4 := Lib.hid h4
  have HS := Lib.hid hs
  clear h hd hc hb h4 hs
  go_enter Tryz.func262, Tryz.ntmps262
  go_wp2_with (first
    | ((with_reducible refine wpList_alloc_new 135 _ zeroSup (some 2) ?hgd ?ho ?hd ?_); (case hgd => rfl); (case ho => rfl); (case hd => rfl); (intro b2 w1 l1 B1 e1 z1))
    | ((with_reducible refine wpList_alloc_new 383 _ zeroArr4 (some 5) ?hgd ?ho ?hd ?_); (case hgd => rfl); (case ho => rfl); (case hd => rfl); (intro b5 w2 l2 B2 e2 z2))
    | fail)
  have HL2 := Lib.hid l1
  have HL5 := Lib.hid (show w.heap.size ≤ b5 from Nat.le_trans l1 (Nat.le_of_lt (Nat.lt_of_lt_of_le z1 l2)))
  have HN5 := Lib.hid (show b2 ≠ b5 by omega)
  have hbel := (e1.mono l1).trans (e2.mono HL5.out)
  have hB1 := B1.below e2 (Nat.lt_of_lt_of_le z1 l2)
  clear e1 e2 z1 z2 l1 l2 B1
  go_loopw [13] (fun v wr => ∃ k : Nat, k ≤ 4 ∧ v = .int .i64 k ∧ ((k = 0 → Blk wr b5 [.string (⟨#[]⟩ : ByteArray), .string (⟨#[]⟩ : ByteArray), .string (⟨#[]⟩ : ByteArray), .string (⟨#[]⟩ : ByteArray)] 383) ∧ (k = 1 → Blk wr b5 [.string (d.shown 0), .string (⟨#[]⟩ : ByteArray), .string (⟨#[]⟩ : ByteArray), .string (⟨#[]⟩ : ByteArray)] 383) ∧ (k = 2 → Blk wr b5 [.string (d.shown 0), .string (d.shown 1), .string (⟨#[]⟩ : ByteArray), .string (⟨#[]⟩ : ByteArray)] 383) ∧ (k = 3 → Blk wr b5 [.string (d.shown 0), .string (d.shown 1), .string (d.shown 2), .string (⟨#[]⟩ : ByteArray)] 383) ∧ (k = 4 → Blk wr b5 [.string (d.shown 0), .string (d.shown 1), .string (d.shown 2), .string (d.shown 3)] 383)) ∧ Blk wr b2 SupD.zero.cells 135 ∧ Below w.heap.size w wr) (fun v _ => 4 - (intOf v).toNat)
  case atStart => exact ⟨0, by omega, rfl, ⟨fun _ => B2, fun h => (by cases h), fun h => (by cases h), fun h => (by cases h), fun h => (by cases h)⟩, hB1, hbel⟩
  case round =>
    clear B2 hB1 hbel
    obtain ⟨k, hk, rfl, hsg, hb2, hbel⟩ := hrel
    have HSG := Lib.hid hsg
    have HB2 := Lib.hid hb2
    have HBE := Lib.hid hbel
    have HDr := Lib.hid (HH.out.below hbel)
    clear hsg hb2 hbel
    match k, hk with
    | 0, hk =>
      have hB := HSG.out.1 (by trivial)
      have g0 := hB.cell (i := 0) rfl
      have f0 := hB.free 0
      go_wp2_with fail
      refine (dread_walk db d _ HDr.out HD.out 0 (by have := H4.out; omega) HC.out HB.out).mono ?_
      rintro e w' ⟨rfl, rfl⟩
      obtain ⟨sh, hsh⟩ : ∃ s, d.shown ((0 : Nat) : Int) = s := ⟨_, rfl⟩
      rw [hsh]
      go_wp2_with fail
      have hB2 := hB.set 0 (.string sh)
      have hB2' := hB2.ext (show _ = [.string (d.shown 0), .string (⟨#[]⟩ : ByteArray), .string (⟨#[]⟩ : ByteArray), .string (⟨#[]⟩ : ByteArray)] by rw [← hsh]; rfl)
      have hbe := HBE.out.setCell (p := ⟨b5, 0, none⟩) (by exact HL5.out) (.string sh)
      have h22 := HB2.out.set_other (a := ⟨b5, 0, none⟩) HN5.out (.string sh)
      go_roundw
      case rel => exact ⟨1, by omega, rfl, ⟨fun h => (by cases h), fun _ => hB2', fun h => (by cases h), fun h => (by cases h), fun h => (by cases h)⟩, h22, hbe⟩
      case measure => simp [intOf]
    | 1, hk =>
      have hB := HSG.out.2.1 (by trivial)
      have g1 := hB.cell (i := 1) rfl
      have f1 := hB.free 1
      go_wp2_with fail
      refine (dread_walk db d _ HDr.out HD.out 1 (by have := H4.out; omega) HC.out HB.out).mono ?_
      rintro e w' ⟨rfl, rfl⟩
      obtain ⟨sh, hsh⟩ : ∃ s, d.shown ((1 : Nat) : Int) = s := ⟨_, rfl⟩
      rw [hsh]
      go_wp2_with fail
      have hB2 := hB.set 1 (.string sh)
      have hB2' := hB2.ext (show _ = [.string (d.shown 0), .string (d.shown 1), .string (⟨#[]⟩ : ByteArray), .string (⟨#[]⟩ : ByteArray)] by rw [← hsh]; rfl)
      have hbe := HBE.out.setCell (p := ⟨b5, 1, none⟩) (by exact HL5.out) (.string sh)
      have h22 := HB2.out.set_other (a := ⟨b5, 1, none⟩) HN5.out (.string sh)
      go_roundw
      case rel => exact ⟨2, by omega, rfl, ⟨fun h => (by cases h), fun h => (by cases h), fun _ => hB2', fun h => (by cases h), fun h => (by cases h)⟩, h22, hbe⟩
      case measure => simp [intOf]
    | 2, hk =>
      have hB := HSG.out.2.2.1 (by trivial)
      have g2 := hB.cell (i := 2) rfl
      have f2 := hB.free 2
      go_wp2_with fail
      refine (dread_walk db d _ HDr.out HD.out 2 (by have := H4.out; omega) HC.out HB.out).mono ?_
      rintro e w' ⟨rfl, rfl⟩
      obtain ⟨sh, hsh⟩ : ∃ s, d.shown ((2 : Nat) : Int) = s := ⟨_, rfl⟩
      rw [hsh]
      go_wp2_with fail
      have hB2 := hB.set 2 (.string sh)
      have hB2' := hB2.ext (show _ = [.string (d.shown 0), .string (d.shown 1), .string (d.shown 2), .string (⟨#[]⟩ : ByteArray)] by rw [← hsh]; rfl)
      have hbe := HBE.out.setCell (p := ⟨b5, 2, none⟩) (by exact HL5.out) (.string sh)
      have h22 := HB2.out.set_other (a := ⟨b5, 2, none⟩) HN5.out (.string sh)
      go_roundw
      case rel => exact ⟨3, by omega, rfl, ⟨fun h => (by cases h), fun h => (by cases h), fun h => (by cases h), fun _ => hB2', fun h => (by cases h)⟩, h22, hbe⟩
      case measure => simp [intOf]
    | 3, hk =>
      have hB := HSG.out.2.2.2.1 (by trivial)
      have g3 := hB.cell (i := 3) rfl
      have f3 := hB.free 3
      go_wp2_with fail
      refine (dread_walk db d _ HDr.out HD.out 3 (by have := H4.out; omega) HC.out HB.out).mono ?_
      rintro e w' ⟨rfl, rfl⟩
      obtain ⟨sh, hsh⟩ : ∃ s, d.shown ((3 : Nat) : Int) = s := ⟨_, rfl⟩
      rw [hsh]
      go_wp2_with fail
      have hB2 := hB.set 3 (.string sh)
      have hB2' := hB2.ext (show _ = [.string (d.shown 0), .string (d.shown 1), .string (d.shown 2), .string (d.shown 3)] by rw [← hsh]; rfl)
      have hbe := HBE.out.setCell (p := ⟨b5, 3, none⟩) (by exact HL5.out) (.string sh)
      have h22 := HB2.out.set_other (a := ⟨b5, 3, none⟩) HN5.out (.string sh)
      go_roundw
      case rel => exact ⟨4, by omega, rfl, ⟨fun h => (by cases h), fun h => (by cases h), fun h => (by cases h), fun h => (by cases h), fun _ => hB2'⟩, h22, hbe⟩
      case measure => simp [intOf]
    | 4, hk =>
      have hB := HSG.out.2.2.2.2 (by trivial)
      obtain ⟨nb, hnb⟩ : ∃ nb, (⟨(List.replicate 4096 0).toArray⟩ : ByteArray) = nb := ⟨_, rfl⟩
      have hch : ∀ wx : World, Calls Tryz.prog 332 #[.string nb, .string (d.shown 1)] wx fun e w' => e = .returned (.tuple #[s.v, .int .i64 1, .int .i64 0]) ∧ Below wx.heap.size wx w' := fun wx => by rw [← hnb]; exact supChoose_walk s (d.shown 1) wx h1 HS.out
      have g0 := hB.cell (i := 0) rfl
      rw [h0, hnb] at g0
      have g1 := hB.cell (i := 1) rfl
      have HHB := Lib.hid hB
      have HCH := Lib.hid hch
      clear hB hch hnb h0 h1
      go_wp2_with fail
      refine (HCH.out _).mono ?_
      rintro e w4 ⟨rfl, hb4⟩
      have HB4 := Lib.hid (HHB.out.below hb4 HHB.out.lt)
      have HR4 := Lib.hid (HB2.out.below hb4 HB2.out.lt)
      have HD4 := Lib.hid (HDr.out.below hb4)
      have HBE4 := Lib.hid (HBE.out.trans (hb4.mono HBE.out.size))
      clear hb4 g0 g1
      go_wp2_with (first
        | ((with_reducible refine wpList_alloc_new 135 _ zeroSup (some 9) ?hgd ?ho ?hd ?_); (case hgd => rfl); (case ho => rfl); (case hd => rfl); (intro b9 w6 l6 B6 e6 z6))
        | ((with_reducible refine wpList_store_new 135 (.tmp 9) (.tmp 36) b9 SupD.zero.cells s.cells 135 B6 rfl sizeSup (sup_one _) ?hgd ?ho ?hx ?hy ?_); (case hgd => rfl); (case ho => rfl); (case hx => rfl); (case hy => rfl); (intro w7 B7 o7))
        | fail)
      have hb7 : Below w4.heap.size w4 w7 := o7.below (e6.mono l6) l6
      have HBX := Lib.hid (HB4.out.below hb7 HB4.out.lt)
      have HRX := Lib.hid (HR4.out.below hb7 HR4.out.lt)
      have HDX := Lib.hid (HD4.out.below hb7)
      have HBEX := Lib.hid (HBE4.out.trans (hb7.mono HBE4.out.size))
      have HSX := Lib.hid B7
      have HGG := Lib.hid hg
      clear hb7 B6 e6 l6 z6 o7 B7 hg
      refine wp_region_held_drew (S := fun wx => wx.cell? ⟨b9, 4, none⟩ = some (.int .i64 s.geo.blocks)) (by kernel_rfl) (HSX.out.drew.cell (i := 4) rfl) (fun hHeld => ?_)
      refine wpAnyH_take (i := 0) (v := ?_) rfl (by kernel_rfl) (by kernel_rfl) (by kernel_rfl) (fun _ _ _ h => h) (Or.inl ⟨by rfl, ?_⟩) (by assumption) ?_
      rotate_left
      · intro w hSw; (try dsimp only at hSw); go_simp; first | done | with_reducible rfl
      (try simp only [Act.put, Array.getInternal_eq_getElem, List.getElem_toArray, List.getElem_cons_succ, List.getElem_cons_zero, List.setIfInBounds_toArray, List.set_cons_zero, List.set_cons_succ])
      refine wpAnyH_take (i := 1) (v := ?_) rfl (by kernel_rfl) (by kernel_rfl) (by kernel_rfl) (fun _ _ _ h => h) (Or.inl ⟨by rfl, ?_⟩) (by assumption) ?_
      rotate_left
      · intro w hSw; (try dsimp only at hSw); go_simp; first | done | with_reducible rfl
      (try simp only [Act.put, Array.getInternal_eq_getElem, List.getElem_toArray, List.getElem_cons_succ, List.getElem_cons_zero, List.setIfInBounds_toArray, List.set_cons_zero, List.set_cons_succ])
      refine wpAnyH_take (i := 2) (v := ?_) rfl (by kernel_rfl) (by kernel_rfl) (by kernel_rfl) (fun _ _ _ h => h) (Or.inl ⟨by rfl, ?_⟩) (by assumption) ?_
      rotate_left
      · intro w hSw; (try dsimp only at hSw); go_simp; first | done | with_reducible rfl
      (try simp only [Act.put, Array.getInternal_eq_getElem, List.getElem_toArray, List.getElem_cons_succ, List.getElem_cons_zero, List.setIfInBounds_toArray, List.set_cons_zero, List.set_cons_succ])
      refine wpAnyH_take (i := 3) (v := ?_) rfl (by kernel_rfl) (by kernel_rfl) (by kernel_rfl) (fun _ _ _ h => h) (Or.inl ⟨by rfl, ?_⟩) (by assumption) ?_
      rotate_left
      · intro w hSw; (try dsimp only at hSw); go_simp; first | done | with_reducible rfl
      (try simp only [Act.put, Array.getInternal_eq_getElem, List.getElem_toArray, List.getElem_cons_succ, List.getElem_cons_zero, List.setIfInBounds_toArray, List.set_cons_zero, List.set_cons_succ])
      refine wpAnyH_ready (rs := [4]) (by kernel_rfl) (by simp) ?_
      refine AllReadyH.cons rfl (fun K hK => ?_) AllReadyH.nil
      go_simp
      refine (dsize_walk db d _ (HDX.out.below (Below.refl _ _).drew)).mono ?_
      rintro e w' ⟨rfl, rfl⟩
      rw [← HGG.out]
      (try go_wp2_with fail)
      refine hK.out _ _ (HSX.out.drew.cell (i := 4) rfl) (fun hHeld2 => ?_)
      clear hK K hHeld
      have hHeld := hHeld2
      clear hHeld2
      (try simp only [Act.put, Array.getInternal_eq_getElem, List.getElem_toArray, List.getElem_cons_succ, List.getElem_cons_zero, List.setIfInBounds_toArray, List.set_cons_zero, List.set_cons_succ])
      refine wpAnyH_take (i := 5) (v := ?_) rfl (by kernel_rfl) (by kernel_rfl) (by kernel_rfl) (fun _ _ _ h => h) (Or.inl ⟨by rfl, ?_⟩) (by assumption) ?_
      rotate_left
      · intro w hSw; (try dsimp only at hSw); go_simp; first | done | with_reducible rfl
      (try simp only [Act.put, Array.getInternal_eq_getElem, List.getElem_toArray, List.getElem_cons_succ, List.getElem_cons_zero, List.setIfInBounds_toArray, List.set_cons_zero, List.set_cons_succ])
      refine wpAnyH_done (by kernel_rfl) ?_ _
      have HBEY := Lib.hid (HBEX.out.drew)
      have x2 := HBX.out.drew.cell (i := 2) rfl
      have x3 := HBX.out.drew.cell (i := 3) rfl
      have y2 := HSX.out.drew.cell (i := 2) rfl
      rw [hn] at y2
      have HSY := Lib.hid HSX.out.drew
      have HRY := Lib.hid HRX.out.drew
      obtain ⟨wy, hwy⟩ : ∃ wy, w7.drew = wy := ⟨_, rfl⟩
      rw [hwy] at HBEY x2 x3 y2 HSY HRY ⊢
      clear hwy
      go_wp2_with fail
      refine (slotsPick_walk n key (d.shown 2) (d.shown 3) _ (by have := HS.out.e1; omega) hkl hkey).mono ?_
      rintro e w8 ⟨rfl, hb8⟩
      have HS8 := Lib.hid (HSY.out.below hb8 HSY.out.lt)
      have HR8 := Lib.hid (HRY.out.below hb8 HRY.out.lt)
      have HBE8 := Lib.hid (HBEY.out.trans (hb8.mono HBEY.out.size))
      clear hb8 x2 x3 y2
      go_wp2_with (first
        | ((with_reducible refine wpList_load_blk 135 (.tmp 9) b9 s.cells 135 _ HS8.out Tryz.underlying135 rfl sizeSup ?hgd ?ho ?hx ?_); (case hgd => rfl); (case ho => rfl); (case hx => rfl))
        | ((with_reducible refine wpList_store_new 135 (.tmp 2) (.tmp 60) b2 SupD.zero.cells s.cells 135 HR8.out rfl sizeSup (sup_one _) ?hgd ?ho ?hx ?hy ?_); (case hgd => rfl); (case ho => rfl); (case hx => rfl); (case hy => rfl); (intro w9 B9 o9))
        | fail)
      (try simp only [Exit.inBlock, Exit.then]); refine bodyPost_ret (results_cell2t rfl _ _ B9.range rfl Tryz.underlying135 rfl sizeSup) rfl ⟨rfl, o9.below HBE8.out HL2.out⟩
end Go.Proofs.YtppdboadjefieaaGreat
