/- The cell of a cell's bytes (chapter 12): Take. An index (chapter 14): all versions, those of an epoch; the newest one of a place. An index (chapter 14): a place's newest version, where there is one. A book (chapter 23): Gone, and a closure is applied; a clock is let show a time (chapter 22). -/
import Derived.Test.YtppdboadjefieaaGreatQ20
import Derived.Test.YtppdboadjefieaaGreatQ13
import Derived.Test.YtppdboadjefieaaGreatQ22
import Derived.Test.YtppdboadjefieaaGreatQ4
import Derived.Test.YtppdboadjefieaaGreatQ7
import Derived.OrdersHeld
import Derived.Lib.SliceRun
import Derived.Deep.DeepAppendWide
import Derived.Test.YtppdboadjefieaaGreatQ12
import Derived.Test.YtppdboadjefieaaGreatQ8
import Derived.Test.YtppdboadjefieaaGreatQ14
import Derived.StillTailTactics
import Derived.StringKeys
set_option linter.unusedSimpArgs false
set_option linter.unusedVariables false
namespace Go.Proofs.YtppdboadjefieaaGreat
open Go Go.RowKit
set_option maxRecDepth 100000

def zcell : List Value := CellD.cells ⟨0, 0, 0, false, ⟨#[]⟩⟩
theorem zeroCell (w : World) : Sem.run Tryz.prog (zeroValue 158) w = .ok (.agg zcell.toArray) w := by kernel_rfl
theorem cell_one (c : CellD) : ∀ v ∈ c.cells, v.oneCell' = true := by intro v hv; simp [CellD.cells] at hv; rcases hv with rfl | rfl | rfl | rfl | rfl <;> rfl
set_option maxHeartbeats 8000000 in
theorem cellTake1_walk (c : CellD) (block : ByteArray) (w : World) (ht : Txt block (cellL c)) (hc : CellOk c) (hg : c.gone = false) :
    Calls Tryz.prog 160 #[.string block] w fun e w' => e = .returned (.tuple #[.agg c.cells.toArray, .int .i64 0]) ∧ Below w.heap.size w w' := by
  have hsz : block.size = 4096 := by rw [ht.size, cellL_length c hc.n]
  have hsi : (block.size : Int) = 4096 := by omega
  have HU := Lib.hid (show unpackS [1, 4, 4, 4] (block.extract 0 13).data.toList = some [1, c.epoch, c.slot, c.lba] from by
    rw [show (block.extract 0 13).data.toList = _ from cellL_cut1 ht, cell_unpack hc]
    have hk : cellKind c = 1 := by unfold cellKind; rw [hg]; rfl
    unfold cellNums
    rw [hk])
  have HT1 := Lib.hid (cellL_cut1 ht)
  obtain ⟨zt, hzt⟩ := cellL_cut2 ht hc.n
  have HCU := Lib.hid (show cutS (block.extract 13 4096).data.toList = some (c.cipher.data.toList, zt) from by
    rw [show (block.extract 13 4096).data.toList = _ from hzt, cutS_text (by rw [show c.cipher.data.toList.length = c.cipher.size from rfl]; have := hc.n; omega)])
  have HT := Lib.hid ht
  have HC := Lib.hid hc
  obtain ⟨ep, sl, lb, gn, s⟩ := c
  obtain rfl : gn = false := hg
  clear ht hc hzt
  have HSZ := Lib.hid hsz
  clear hsz
  go_enter Tryz.func160, Tryz.ntmps160
  go_wp2_with (first
    | ((with_reducible refine wpList_alloc_new 158 _ zeroCell (some 2) ?hgd ?ho ?hd ?_); (case hgd | ho | hd => rfl); (intro b2 w1 l1 B1 e1 z1))
    | fail)
  have HB1 := Lib.hid B1
  have HW1 := Lib.hid (e1.mono l1)
  have HL := Lib.hid l1
  clear B1 e1 z1 l1
  refine wp_region_held_drew (S := fun wx => True) (by kernel_rfl) (trivial) (fun hHeld => ?_)
  obtain ⟨wd, hwd⟩ : ∃ wd, wd = w1.drew := ⟨_, rfl⟩
  have HBd : Hid (Blk wd b2 zcell 158) := Lib.hid (by rw [hwd]; exact HB1.out.drew)
  have HWd : Hid (Below w.heap.size w wd) := Lib.hid (by rw [hwd]; exact HW1.out.drew)
  rw [← hwd]
  (try rw [← hwd] at hHeld)
  clear hwd
  refine wpAnyH_take (i := 1) (v := ?_) rfl (by kernel_rfl) (by kernel_rfl) (by kernel_rfl) (fun _ _ _ h => h) (Or.inl ⟨by rfl, ?_⟩) (by assumption) ?_
  rotate_left
  · intro w hSw; (try dsimp only at hSw); go_simp; first | done | with_reducible rfl
  (try simp only [Act.put, Array.getInternal_eq_getElem, List.getElem_toArray, List.getElem_cons_succ, List.getElem_cons_zero, List.setIfInBounds_toArray, List.set_cons_zero, List.set_cons_succ])
  refine wpAnyH_take (i := 2) (v := ?_) rfl (by kernel_rfl) (by kernel_rfl) (by kernel_rfl) (fun _ _ _ h => h) (Or.inl ⟨by rfl, ?_⟩) (by assumption) ?_
  rotate_left
  · intro w hSw; (try dsimp only at hSw); go_simp; first | done | with_reducible rfl
  (try simp only [Act.put, Array.getInternal_eq_getElem, List.getElem_toArray, List.getElem_cons_succ, List.getElem_cons_zero, List.setIfInBounds_toArray, List.set_cons_zero, List.set_cons_succ])
  refine wpAnyH_take (i := 3) (v := ?_) rfl (by kernel_rfl) (by kernel_rfl) (by kernel_rfl) (fun _ _ _ h => h) (Or.inl ⟨by rfl, ?_⟩) (by assumption) ?_
  rotate_left
  · intro w hSw; (try dsimp only at hSw); go_simp; first | done | with_reducible rfl
  (try simp only [Act.put, Array.getInternal_eq_getElem, List.getElem_toArray, List.getElem_cons_succ, List.getElem_cons_zero, List.setIfInBounds_toArray, List.set_cons_zero, List.set_cons_succ])
  refine wpAnyH_ready (rs := [0]) (by kernel_rfl) (by simp) ?_
  refine AllReadyH.cons rfl (fun K hK => ?_) AllReadyH.nil
  go_simp
  refine (cellWidths_walk _).mono ?_
  rintro e w2 ⟨⟨gw, rfl, hvw, _⟩, hb2⟩
  have HB2 := Lib.hid (HBd.out.below hb2 HBd.out.lt)
  have HW2 := Lib.hid (HWd.out.trans (hb2.mono HWd.out.size))
  have HVW := Lib.hid hvw
  clear hb2 hvw
  (try go_wp2_with fail)
  refine hK.out _ _ (trivial) (fun hHeld2 => ?_)
  clear hK K hHeld
  have hHeld := hHeld2
  clear hHeld2
  (try simp only [Act.put, Array.getInternal_eq_getElem, List.getElem_toArray, List.getElem_cons_succ, List.getElem_cons_zero, List.setIfInBounds_toArray, List.set_cons_zero, List.set_cons_succ])
  refine wpAnyH_ready (rs := [4]) (by kernel_rfl) (by simp) ?_
  refine AllReadyH.cons rfl (fun K hK => ?_) AllReadyH.nil
  go_simp
  refine (unpack_walk _ [1, 4, 4, 4] (block.extract 0 13) _ (IntRow.blk (xs := [1, 4, 4, 4]) HVW.out rfl 4) (by intro k a h; match k, h with | 0, h => simp at h; omega | 1, h => simp at h; omega | 2, h => simp at h; omega | 3, h => simp at h; omega | k + 4, h => simp at h) (by rw [HT1.out.size, cellHead_length]; rfl) (by decide) (by decide)).mono ?_
  rintro e w3 ⟨he, hb3⟩
  obtain ⟨vo, rfl, hown⟩ := unpack_yes he HU.out
  obtain ⟨gr, cap, zz, rfl, hcap, hgg, hblk⟩ := own_split hown (by simp)
  have HB3 := Lib.hid (HB2.out.below hb3 HB2.out.lt)
  have HW3 := Lib.hid (HW2.out.trans (hb3.mono HW2.out.size))
  have HROW := Lib.hid hblk
  clear hb3 hown hcap hgg hblk he
  (try go_wp2_with fail)
  refine hK.out _ _ (trivial) (fun hHeld2 => ?_)
  clear hK K hHeld
  have hHeld := hHeld2
  clear hHeld2
  (try simp only [Act.put, Array.getInternal_eq_getElem, List.getElem_toArray, List.getElem_cons_succ, List.getElem_cons_zero, List.setIfInBounds_toArray, List.set_cons_zero, List.set_cons_succ])
  refine wpAnyH_take (i := 5) (v := ?_) rfl (by kernel_rfl) (by kernel_rfl) (by kernel_rfl) (fun _ _ _ h => h) (Or.inl ⟨by rfl, ?_⟩) (by assumption) ?_
  rotate_left
  · intro w hSw; (try dsimp only at hSw); go_simp; first | done | with_reducible rfl
  (try simp only [Act.put, Array.getInternal_eq_getElem, List.getElem_toArray, List.getElem_cons_succ, List.getElem_cons_zero, List.setIfInBounds_toArray, List.set_cons_zero, List.set_cons_succ])
  refine wpAnyH_take (i := 6) (v := ?_) rfl (by kernel_rfl) (by kernel_rfl) (by kernel_rfl) (fun _ _ _ h => h) (Or.inl ⟨by rfl, ?_⟩) (by assumption) ?_
  rotate_left
  · intro w hSw; (try dsimp only at hSw); go_simp; first | done | with_reducible rfl
  (try simp only [Act.put, Array.getInternal_eq_getElem, List.getElem_toArray, List.getElem_cons_succ, List.getElem_cons_zero, List.setIfInBounds_toArray, List.set_cons_zero, List.set_cons_succ])
  refine wpAnyH_take (i := 7) (v := ?_) rfl (by kernel_rfl) (by kernel_rfl) (by kernel_rfl) (fun _ _ _ h => h) (Or.inl ⟨by rfl, ?_⟩) (by assumption) ?_
  rotate_left
  · intro w hSw; (try dsimp only at hSw); go_simp; first | done | with_reducible rfl
  (try simp only [Act.put, Array.getInternal_eq_getElem, List.getElem_toArray, List.getElem_cons_succ, List.getElem_cons_zero, List.setIfInBounds_toArray, List.set_cons_zero, List.set_cons_succ])
  refine wpAnyH_take (i := 8) (v := ?_) rfl (by kernel_rfl) (by kernel_rfl) (by kernel_rfl) (fun _ _ _ h => h) (Or.inl ⟨by rfl, ?_⟩) (by assumption) ?_
  rotate_left
  · intro w hSw; (try dsimp only at hSw); go_simp; first | done | with_reducible rfl
  (try simp only [Act.put, Array.getInternal_eq_getElem, List.getElem_toArray, List.getElem_cons_succ, List.getElem_cons_zero, List.setIfInBounds_toArray, List.set_cons_zero, List.set_cons_succ])
  refine wpAnyH_take (i := 9) (v := ?_) rfl (by kernel_rfl) (by kernel_rfl) (by kernel_rfl) (fun _ _ _ h => h) (Or.inl ⟨by rfl, ?_⟩) (by assumption) ?_
  rotate_left
  · intro w hSw; (try dsimp only at hSw); go_simp; first | done | with_reducible rfl
  (try simp only [Act.put, Array.getInternal_eq_getElem, List.getElem_toArray, List.getElem_cons_succ, List.getElem_cons_zero, List.setIfInBounds_toArray, List.set_cons_zero, List.set_cons_succ])
  refine wpAnyH_done (by kernel_rfl) ?_ _
  clear hHeld
  go_wp2_with fail
  rw [HSZ.out]
  refine (ocut_walk (block.extract 13 4096) _).mono ?_
  rintro e w4 ⟨he, hb4⟩
  obtain ⟨s1, s2, hs1, rfl⟩ : ∃ s1 s2 : ByteArray, s1 = s ∧ e = .returned (.tuple #[.string s1, .string s2, .int .i64 0]) := by
    rcases he with ⟨a, b, x, y, h1, h2, tx, ty⟩ | ⟨h1, _⟩
    · rw [HCU.out] at h1
      simp only [Option.some.injEq, Prod.mk.injEq] at h1
      exact ⟨x, y, tx.eq (show Txt s a from h1.1), h2⟩
    · rw [HCU.out] at h1; cases h1
  subst hs1
  have HB4 := Lib.hid (HB3.out.below hb4 HB3.out.lt)
  have HW4 := Lib.hid (HW3.out.trans (hb4.mono HW3.out.size))
  have HR4 := Lib.hid (HROW.out.below hb4 HROW.out.lt)
  clear hb4 he
  have i0 : w4.cell? ⟨gr, 0, none⟩ = some (.int .i64 1) := HR4.out.cell (i := 0) rfl
  have i1 : w4.cell? ⟨gr, 1, none⟩ = some (.int .i64 ep) := HR4.out.cell (i := 1) rfl
  have i2 : w4.cell? ⟨gr, 2, none⟩ = some (.int .i64 sl) := HR4.out.cell (i := 2) rfl
  have i3 : w4.cell? ⟨gr, 3, none⟩ = some (.int .i64 lb) := HR4.out.cell (i := 3) rfl
  have hgD : gr < w4.heap.size := HR4.out.lt
  go_wp2_with fail
  go_region_held3 (fun w' => w'.cell? ⟨gr, 0, none⟩ = some (.int .i64 1) ∧ w'.cell? ⟨gr, 1, none⟩ = some (.int .i64 ep) ∧ w'.cell? ⟨gr, 2, none⟩ = some (.int .i64 sl) ∧ w'.cell? ⟨gr, 3, none⟩ = some (.int .i64 lb)) (go_keep) (fail)
  all_goals
    have B6 : Blk (w4.alloc (Obj.cells #[.int .i64 ep, .int .i64 sl, .int .i64 lb, .bool false, .string s1] 158)).drew w4.heap.size (CellD.cells ⟨ep, sl, lb, false, s1⟩) 158 := Blk.new w4 (CellD.cells ⟨ep, sl, lb, false, s1⟩) 158
    have hb6 : Below w4.heap.size w4 (w4.alloc (Obj.cells #[.int .i64 ep, .int .i64 sl, .int .i64 lb, .bool false, .string s1] 158)).drew := ((Below.refl _ _).alloc (Nat.le_refl _) _).drew
    obtain ⟨w6, hw6⟩ : ∃ W, (w4.alloc (Obj.cells #[.int .i64 ep, .int .i64 sl, .int .i64 lb, .bool false, .string s1] 158)).drew = W := ⟨_, rfl⟩
    rw [hw6] at B6 hb6 ⊢
    have HB6 := Lib.hid (HB4.out.below hb6 HB4.out.lt)
    have HW6 := Lib.hid (HW4.out.trans (hb6.mono HW4.out.size))
    have H6 := Lib.hid B6
    clear hw6 B6 hb6 i0 i1 i2 i3 hgD
    go_wp2_with ((with_reducible refine wpList_load_blk 158 (.tmp 10) w4.heap.size (CellD.cells ⟨ep, sl, lb, false, s1⟩) 158 _ H6.out Tryz.underlying158 rfl sizeCell ?hgd ?ho ?hx ?_); (case hgd | ho | hx => rfl))
    refine (cellPut1_walk ⟨ep, sl, lb, false, s1⟩ _ HC.out rfl).mono ?_
    rintro e w7 ⟨⟨z, rfl, tz⟩, hb7⟩
    obtain rfl : z = block := tz.eq HT.out
    have HB7 := Lib.hid (HB6.out.below hb7 HB6.out.lt)
    have HW7 := Lib.hid (HW6.out.trans (hb7.mono HW6.out.size))
    have H7 := Lib.hid (H6.out.below hb7 H6.out.lt)
    clear hb7 tz
    go_wp2_with (first
      | ((with_reducible refine wpList_load_blk 158 (.tmp 10) w4.heap.size (CellD.cells ⟨ep, sl, lb, false, s1⟩) 158 _ H7.out Tryz.underlying158 rfl sizeCell ?hgd ?ho ?hx ?_); (case hgd | ho | hx => rfl))
      | ((with_reducible refine wpList_store_new 158 (.tmp 2) (.tmp 68) b2 zcell (CellD.cells ⟨ep, sl, lb, false, s1⟩) 158 HB7.out rfl sizeCell (cell_one _) ?hgd ?ho ?hx ?hy ?_); (case hgd | ho | hx | hy => rfl); (intro w9 B9 o9))
      | fail)
    (try simp only [Exit.inBlock, Exit.then]); refine bodyPost_ret (results_cell1t rfl _ _ B9.range rfl Tryz.underlying158 rfl sizeCell) rfl ⟨rfl, o9.below HW7.out HL.out⟩
end Go.Proofs.YtppdboadjefieaaGreat

namespace Go.Proofs.YtppdboadjefieaaGreat
open Go Go.RowKit
set_option maxRecDepth 100000

set_option maxHeartbeats 1000000 in
theorem cloneVers_walk (v : Value) (n : Nat) (xs : List VersD) (w : World) (h : w.ownsRow 0 154 3 v n (flatV xs)) (hn : n ≤ 4096) :
    Calls Tryz.prog 256 #[v] w fun e w' => (∃ v', e = .returned v' ∧ w'.ownsRow w.heap.size 154 3 v' n (flatV xs)) ∧ Below w.heap.size w w' := by
  obtain ⟨i0, hi, hz0, hz1, hz2⟩ := info_parts infoVers
  rcases h.2 with ⟨rfl, rfl⟩ | ⟨g, cap, cur, rfl, _⟩
  · have hx : (flatV xs) = ([] : List Value) := List.eq_nil_of_length_eq_zero (by simpa using h.1)
    have HX := Lib.hid hx
    clear hx h
    have hnn : ∀ w, (binOp .eql 217 (.slice none 0 0) (.slice none 0 0)).run Tryz.prog w = .ok (.bool true) w := fun w => Lib.run_eql_slice_nil w 217 154 none 0 0 0 0 Tryz.underlying217
    go_enter Tryz.func256, Tryz.ntmps256
    go_wp2_with fail
    go_ret
    exact ⟨⟨_, rfl, by rw [HX.out]; exact World.ownsRow_nil _ _ _ _⟩, Below.refl _ _⟩
  · have HG := Lib.hid h
    have hnn : ∀ w, (binOp .eql 217 (.slice (some ⟨g, 0, none⟩) n cap) (.slice none 0 0)).run Tryz.prog w = .ok (.bool false) w := fun w => Lib.run_eql_slice_nil w 217 154 (some ⟨g, 0, none⟩) n cap 0 0 Tryz.underlying217
    have hcs : ∀ j u, (flatV xs)[j]? = some u → (w.alloc (.cells #[] 154)).cell? ((⟨g, 0, none⟩ : Addr).add j) = some u := fun j u hu => (World.ownsRow.alloc h _).cells (g := g) rfl j u hu
    have HCS := Lib.hid hcs
    have HL := Lib.hid h.1
    have HONE := Lib.hid (show ∀ u ∈ (flatV xs), u.oneCell' = true from flatV_one xs)
    clear h hcs
    go_enter Tryz.func256, Tryz.ntmps256
    go_wp2_with (first
      | (at_builtin; refine wpList_append_own_wide _ rfl _ _ 217 rfl w.heap.size 154 i0 (.agg (VersD.cells ⟨0, 0, 0⟩).toArray) 3 24 Tryz.underlying217 hi hz0 hz1 hz2 rfl (by decide) _ 0 [] rfl (World.ownsRow_lit w #[] 0 (Nat.le_refl _) (by decide) rfl) ⟨g, 0, none⟩ n cap (flatV xs) rfl HL.out HCS.out HONE.out (by unfold maxLen; omega) (by omega) (by simp) ?_; intro v' w8 own8 grow8 nil8)
      | fail)
    have hb8 : Below w.heap.size w w8 := below_own ((Below.refl _ _).alloc (Nat.le_refl _) _) (World.ownsRow_lit (e := 154) (size := 3) w #[] 0 (Nat.le_refl _) (by decide) rfl) grow8 (Nat.le_refl _) (by simp)
    rw [Nat.zero_add, List.nil_append] at own8
    have OWN := Lib.hid own8
    obtain ⟨p, c', hv⟩ := own_shape own8
    subst hv
    clear own8 grow8 nil8
    go_ret
    exact ⟨⟨_, rfl, OWN.out⟩, hb8⟩
theorem iall_walk (xb n : Nat) (xv : Value) (l : List VersD) (w : World) (hX : Blk w xb [.bool true, xv] 297) (hR : w.ownsRow 0 154 3 xv n (flatV l)) (hn : n ≤ 4096) :
    Calls Tryz.prog 162 #[.pointer (some ⟨xb, 0, none⟩)] w fun e w' => (∃ v', e = .returned v' ∧ w'.ownsRow w.heap.size 154 3 v' n (flatV l)) ∧ Below w.heap.size w w' := by
  obtain ⟨p, c, hpc⟩ := own_shape hR
  subst hpc
  have c1 := hX.cell (i := 1) rfl
  go_enter Tryz.func162, Tryz.ntmps162
  go_wp2_with fail
  refine (ithere_walk xb _ _ hX).mono ?_
  rintro e w' ⟨rfl, rfl⟩
  go_wp2_with fail
  refine (cloneVers_walk _ n l _ hR hn).mono ?_
  rintro e w1 ⟨⟨v', rfl, hv'⟩, hb⟩
  go_wp2_with fail
  go_ret
  exact ⟨⟨v', rfl, hv'⟩, hb⟩
def leV (lba epoch : Int) (x : VersD) : Prop := x.lba < lba ∨ (x.lba = lba ∧ x.epoch ≤ epoch)
instance (lba epoch : Int) (x : VersD) : Decidable (leV lba epoch x) := by unfold leV; exact inferInstance
set_option maxHeartbeats 1000000 in
theorem last1_walk (x : VersD) (k lba epoch : Int) (b4 b5 : Nat) (w : World) (h4 : Blk w b4 [.int .i64 lba] 3) (h5 : Blk w b5 [.int .i64 epoch] 3) :
    Calls Tryz.prog 311 #[.agg x.cells.toArray, .int .i64 k, .pointer (some ⟨b4, 0, none⟩), .pointer (some ⟨b5, 0, none⟩)] w fun e w' => e = .returned (.int .i64 (if leV lba epoch x then -1 else 1)) ∧ Below w.heap.size w w' := by
  by_cases h1 : x.lba < lba
  · rw [if_pos (show leV lba epoch x from .inl h1)]
    go_enter Tryz.func311, Tryz.ntmps311
    go_wp2_with (first
      | ((with_reducible refine wpList_box_new 154 (.tmp 0) x.cells (some 4) ?hgd ?ho ?hd ?hx ?_); (case hgd | ho | hd | hx => rfl); (intro b1 w1 l1 B1 e1 z1; have q0 := B1.cell (i := 0) rfl; have q1 := B1.cell (i := 1) rfl; have p4 := (h4.below (e1.mono l1) h4.lt).cell (i := 0) rfl; have p5 := (h5.below (e1.mono l1) h5.lt).cell (i := 0) rfl))
      | fail)
    go_ret
    exact ⟨rfl, e1.mono l1⟩
  · by_cases h2 : x.lba = lba
    · by_cases h3 : x.epoch ≤ epoch
      · rw [if_pos (show leV lba epoch x from .inr ⟨h2, h3⟩)]
        go_enter Tryz.func311, Tryz.ntmps311
        go_wp2_with (first
          | ((with_reducible refine wpList_box_new 154 (.tmp 0) x.cells (some 4) ?hgd ?ho ?hd ?hx ?_); (case hgd | ho | hd | hx => rfl); (intro b1 w1 l1 B1 e1 z1; have q0 := B1.cell (i := 0) rfl; have q1 := B1.cell (i := 1) rfl; have p4 := (h4.below (e1.mono l1) h4.lt).cell (i := 0) rfl; have p5 := (h5.below (e1.mono l1) h5.lt).cell (i := 0) rfl))
          | fail)
        go_ret
        exact ⟨rfl, e1.mono l1⟩
      · rw [if_neg (show ¬ leV lba epoch x from by unfold leV; omega)]
        go_enter Tryz.func311, Tryz.ntmps311
        go_wp2_with (first
          | ((with_reducible refine wpList_box_new 154 (.tmp 0) x.cells (some 4) ?hgd ?ho ?hd ?hx ?_); (case hgd | ho | hd | hx => rfl); (intro b1 w1 l1 B1 e1 z1; have q0 := B1.cell (i := 0) rfl; have q1 := B1.cell (i := 1) rfl; have p4 := (h4.below (e1.mono l1) h4.lt).cell (i := 0) rfl; have p5 := (h5.below (e1.mono l1) h5.lt).cell (i := 0) rfl))
          | fail)
        go_ret
        exact ⟨rfl, e1.mono l1⟩
    · rw [if_neg (show ¬ leV lba epoch x from by unfold leV; omega)]
      go_enter Tryz.func311, Tryz.ntmps311
      go_wp2_with (first
        | ((with_reducible refine wpList_box_new 154 (.tmp 0) x.cells (some 4) ?hgd ?ho ?hd ?hx ?_); (case hgd | ho | hd | hx => rfl); (intro b1 w1 l1 B1 e1 z1; have q0 := B1.cell (i := 0) rfl; have q1 := B1.cell (i := 1) rfl; have p4 := (h4.below (e1.mono l1) h4.lt).cell (i := 0) rfl; have p5 := (h5.below (e1.mono l1) h5.lt).cell (i := 0) rfl))
        | fail)
      go_ret
      exact ⟨rfl, e1.mono l1⟩
structure LastAt (l : List VersD) (lba epoch : Int) (i : Nat) : Prop where
  le : i ≤ l.length
  ahead : ∀ (t : Nat) (x : VersD), l[t]? = some x → t < i → leV lba epoch x
  behind : ∀ (t : Nat) (x : VersD), l[t]? = some x → i ≤ t → ¬ leV lba epoch x
theorem LastAt.uniq {l : List VersD} {lba epoch : Int} {i j : Nat} (h : LastAt l lba epoch i) (k : LastAt l lba epoch j) : i = j := by
  rcases Nat.lt_trichotomy i j with h1 | h1 | h1
  · have hi : i < l.length := by have := k.le; omega
    exact absurd (k.ahead i _ (List.getElem?_eq_getElem hi) h1) (h.behind i _ (List.getElem?_eq_getElem hi) (Nat.le_refl _))
  · exact h1
  · have hj : j < l.length := by have := h.le; omega
    exact absurd (h.ahead j _ (List.getElem?_eq_getElem hj) h1) (k.behind j _ (List.getElem?_eq_getElem hj) (Nat.le_refl _))
set_option maxHeartbeats 4000000 in
theorem bsearchL_walk (g cap n b4 b5 : Nat) (lba epoch : Int) (l : List VersD) (z : List Value) (w : World) (h : Blk w g (flatV l ++ z) 154) (hn : l.length = n) (hb : n ≤ 1048576) (h4 : Blk w b4 [.int .i64 lba] 3) (h5 : Blk w b5 [.int .i64 epoch] 3)
    (hmono : ∀ (i j : Nat) (a b : VersD), l[i]? = some a → l[j]? = some b → i ≤ j → leV lba epoch b → leV lba epoch a) :
    Calls Tryz.prog 310 #[.slice (some ⟨g, 0, none⟩) n cap, .int .i64 0, .func (.func 311) #[] #[.pointer (some ⟨b4, 0, none⟩), .pointer (some ⟨b5, 0, none⟩)]] w fun e w' => (∃ i : Nat, e = .returned (.tuple #[.int .i64 (i : Int), .bool false]) ∧ LastAt l lba epoch i) ∧ Below w.heap.size w w' := by
  have HG0 := Lib.hid h
  have H40 := Lib.hid h4
  have H50 := Lib.hid h5
  have HN := Lib.hid hn
  have HM := Lib.hid hmono
  clear h hn hmono h4 h5
  go_enter Tryz.func310, Tryz.ntmps310
  go_wp2_with fail
  go_loopw [9, 10] (fun s9 s10 wr => ∃ lo hi : Nat, s9 = .int .i64 lo ∧ s10 = .int .i64 hi ∧ lo ≤ hi ∧ hi ≤ n ∧ Hid ((∀ (t : Nat) (x : VersD), l[t]? = some x → t < lo → leV lba epoch x) ∧ (∀ (t : Nat) (x : VersD), l[t]? = some x → hi ≤ t → ¬ leV lba epoch x)) ∧ Hid (Below w.heap.size w wr)) (fun a b _ => (intOf b).toNat - (intOf a).toNat)
  case atStart => exact ⟨0, n, rfl, rfl, Nat.zero_le _, Nat.le_refl _, Lib.hid ⟨fun t x _ ht => absurd ht (Nat.not_lt_zero _), fun t x hx ht => by have := (List.getElem?_eq_some_iff.1 hx).1; have := HN.out; omega⟩, Lib.hid (Below.refl _ _)⟩
  case round =>
    obtain ⟨lo, hi, rfl, rfl, hlh, hin, HI, HBE⟩ := hrel
    have HG := Lib.hid (HG0.out.below HBE.out HG0.out.lt)
    have H4 := Lib.hid (H40.out.below HBE.out H40.out.lt)
    have H5 := Lib.hid (H50.out.below HBE.out H50.out.lt)
    by_cases hlt : lo < hi
    · obtain ⟨m, hm⟩ : ∃ m : Nat, (lo + hi) / 2 = m := ⟨_, rfl⟩
      have hmi : ((lo : Int) + (hi : Int)) / 2 = (m : Int) := by omega
      have hm1 : lo ≤ m := by omega
      have hm2 : m < hi := by omega
      have hm3 : (m : Int) < (n : Int) := by omega
      have hm0 : (0 : Int) ≤ (m : Int) := by omega
      obtain ⟨x, hx⟩ : ∃ x, l[m]? = some x := ⟨_, List.getElem?_eq_getElem (by have := HN.out; omega)⟩
      have HRX := Lib.hid (vers_at HG.out hx)
      clear hm
      go_wp2_with (first
        | ((with_reducible refine wpList_load_met 154 (.tmp 27) g (m * 3) x.cells _ (some 28) HRX.out Tryz.underlying154 rfl sizeVers ?hg ?ho ?hds ?hx ?_); (case ho | hg | hds | hx => rfl))
        | fail)
      refine (last1_walk x 0 lba epoch b4 b5 _ H4.out H5.out).mono ?_
      rintro e wa ⟨rfl, hba⟩
      have HBEa := Lib.hid (HBE.out.trans (hba.mono HBE.out.size))
      clear hba
      by_cases hc : leV lba epoch x
      · rw [if_pos hc]
        go_wp2_with fail
        go_roundw
        case rel => exact ⟨m + 1, hi, by go_num, rfl, by omega, hin, Lib.hid ⟨fun t y hy ht => HM.out t m y x hy hx (by omega) hc, HI.out.2⟩, HBEa⟩
        case measure => simp [intOf]; omega
      · rw [if_neg hc]
        go_wp2_with fail
        go_roundw
        case rel => exact ⟨lo, m, rfl, rfl, hm1, by omega, Lib.hid ⟨HI.out.1, fun t y hy ht h0 => hc (HM.out m t x y hx hy ht h0)⟩, HBEa⟩
        case measure => simp [intOf]; omega
    · obtain rfl : lo = hi := by omega
      by_cases hlo : lo < n
      · have hlo' : (lo : Int) < (n : Int) := by omega
        obtain ⟨x, hx⟩ : ∃ x, l[lo]? = some x := ⟨_, List.getElem?_eq_getElem (by have := HN.out; omega)⟩
        have hne : ¬ leV lba epoch x := HI.out.2 lo x hx (Nat.le_refl _)
        have HRX := Lib.hid (vers_at HG.out hx)
        go_wp2_with (first
          | ((with_reducible refine wpList_load_met 154 (.tmp 43) g (lo * 3) x.cells _ (some 44) HRX.out Tryz.underlying154 rfl sizeVers ?hg ?ho ?hds ?hx ?_); (case ho | hg | hds | hx => rfl))
          | fail)
        refine (last1_walk x 0 lba epoch b4 b5 _ H4.out H5.out).mono ?_
        rintro e wa ⟨rfl, hba⟩
        have HBEa := Lib.hid (HBE.out.trans (hba.mono HBE.out.size))
        rw [if_neg hne]
        clear hba
        go_wp2_with fail
        go_ret2
        exact ⟨⟨lo, rfl, ⟨by have := HN.out; omega, HI.out.1, HI.out.2⟩⟩, HBEa.out⟩
      · obtain rfl : lo = n := by omega
        go_wp2_with fail
        go_ret2
        exact ⟨⟨lo, rfl, ⟨by have := HN.out; omega, HI.out.1, HI.out.2⟩⟩, HBE.out⟩
end Go.Proofs.YtppdboadjefieaaGreat

namespace Go.Proofs.YtppdboadjefieaaGreat
open Go Go.RowKit
set_option maxRecDepth 100000

theorem vers_one (x : VersD) : ∀ v ∈ x.cells, v.oneCell' = true := by intro v hv; simp [VersD.cells] at hv; rcases hv with rfl | rfl | rfl <;> rfl
theorem zeroVers (w : World) : Sem.run Tryz.prog (zeroValue 154) w = .ok (.agg (VersD.cells ⟨0, 0, 0⟩).toArray) w := by kernel_rfl
structure NewestIs (l : List VersD) (lba epoch : Int) (x : VersD) : Prop where
  at_ : ∃ k : Nat, LastAt l lba epoch (k + 1) ∧ l[k]? = some x
  pl : x.lba = lba
  mono : ∀ (i j : Nat) (a b : VersD), l[i]? = some a → l[j]? = some b → i ≤ j → leV lba epoch b → leV lba epoch a
set_option maxHeartbeats 4000000 in
theorem last_walk (xb n : Nat) (xv : Value) (l : List VersD) (lba epoch : Int) (x : VersD) (w : World) (hX : Blk w xb [.bool true, xv] 297) (hR : w.ownsRow 0 154 3 xv n (flatV l)) (hl : l.length = n) (hn : n ≤ 1048576) (hx : NewestIs l lba epoch x) :
    Calls Tryz.prog 224 #[.pointer (some ⟨xb, 0, none⟩), .int .i64 lba, .int .i64 epoch] w fun e w' => e = .returned (.tuple #[.agg x.cells.toArray, .bool true]) ∧ Below w.heap.size w w' := by
  obtain ⟨⟨k, hat, hk⟩, hxl, hmono⟩ := hx
  have hkn : k < n := by rw [← hl]; exact (List.getElem?_eq_some_iff.1 hk).1
  obtain ⟨g, cap, z, rfl, hcap, hb0, hG⟩ := own_split hR (by omega)
  obtain ⟨m, hm⟩ : ∃ m : Nat, m = k + 1 := ⟨_, rfl⟩
  have hmk : (m : Int) - 1 = (k : Int) := by omega
  have hm0 : ((m : Int) == 0) = false := beq_eq_false_iff_ne.2 (by omega)
  have hkn' : (k : Int) < (n : Int) := by omega
  have hwk : IntKind.i64.wrap ((m : Int) - 1) = (k : Int) := by rw [IntWalk.i64_in _ (by omega)]; omega
  have hwk2 : IntKind.i64.wrap (k : Int) = (k : Int) := IntWalk.i64_in _ (by omega)
  have hkt : ((k : Int)).toNat = k := Int.toNat_natCast k
  have hk0 : (0 : Int) ≤ (k : Int) := by omega
  have HX := Lib.hid hX
  have HG := Lib.hid hG
  have HL := Lib.hid hl
  have HNN := Lib.hid hn
  have HAT := Lib.hid (show LastAt l lba epoch m from by rw [hm]; exact hat)
  have HK := Lib.hid hk
  have HXL := Lib.hid hxl
  have HMO := Lib.hid hmono
  have hmf : ∀ (fn : Fn) (first cap : Array Value) (w : World), (Instr.makeFunc fn first cap).run Tryz.prog w = .ok (.func fn first cap) w := fun _ _ _ _ => rfl
  clear hX hR hl hn hat hk hxl hmono hkn hG hm hb0
  go_enter Tryz.func224, Tryz.ntmps224
  go_wp2_with (first
    | ((with_reducible refine wpList_box_one 3 (.tmp 1) (.int .i64 lba) rfl (some 4) ?hgd ?ho ?hd ?hx ?_); (case hgd | ho | hd | hx => rfl); (intro b4 w4 l4 B4 e4 z4))
    | ((with_reducible refine wpList_box_one 3 (.tmp 2) (.int .i64 epoch) rfl (some 5) ?hgd ?ho ?hd ?hx ?_); (case hgd | ho | hd | hx => rfl); (intro b5 w5 l5 B5 e5 z5))
    | ((with_reducible refine wpList_alloc_new 154 _ zeroVers (some 6) ?hgd ?ho ?hd ?_); (case hgd | ho | hd => rfl); (intro b6 w6 l6 B6 e6 z6; have c1 := (((HX.out.below (e4.mono l4) HX.out.lt).below e5 (by have := HX.out.lt; have := e4.size; omega)).below e6 (by have := HX.out.lt; have := e4.size; have := e5.size; omega)).cell (i := 1) rfl))
    | fail)
  have hbe : Below w.heap.size w w6 := ((e4.mono l4).trans (e5.mono (by omega))).trans (e6.mono (by omega))
  have HB4 := Lib.hid ((B4.below e5 (by omega)).below e6 (by omega))
  have HB5 := Lib.hid (B5.below e6 (by omega))
  have HB6 := Lib.hid B6
  have HL6 := Lib.hid (show w.heap.size ≤ b6 from by omega)
  have HBE6 := Lib.hid hbe
  have HG6 := Lib.hid (HG.out.below hbe HG.out.lt)
  have HX6 := Lib.hid (HX.out.below hbe HX.out.lt)
  clear B4 B5 B6 e4 e5 e6 l4 l5 l6 z4 z5 z6 hbe
  refine (bsearchL_walk g cap n b4 b5 lba epoch l z _ HG6.out HL.out HNN.out HB4.out HB5.out HMO.out).mono ?_
  rintro e w7 ⟨⟨m', rfl, hat⟩, hb7⟩
  obtain rfl : m = m' := HAT.out.uniq hat
  have HG7 := Lib.hid (HG6.out.below hb7 HG6.out.lt)
  have HX7 := Lib.hid (HX6.out.below hb7 HX6.out.lt)
  have HB47 := Lib.hid (HB4.out.below hb7 HB4.out.lt)
  have HB67 := Lib.hid (HB6.out.below hb7 HB6.out.lt)
  have HBE7 := Lib.hid (HBE6.out.trans (hb7.mono HBE6.out.size))
  clear hb7 hat c1
  go_upto_region 2 with fail
  have c1 := HX7.out.drew.cell (i := 1) rfl
  have q4 := HB47.out.drew.cell (i := 0) rfl
  have qx : w7.drew.cell? ⟨g, k * 3, none⟩ = some (.int .i64 lba) := by rw [← HXL.out]; exact vers_at HG7.out.drew HK.out 0 _ rfl
  refine wp_region_still_drew (by kernel_rfl) (by kernel_rfl) ?_
  repeat still_step
  refine wpStill_nil ?_
  clear c1 q4 qx
  have c1 := HX7.out.drew.cell (i := 1) rfl
  have HRX := Lib.hid (vers_at HG7.out.drew HK.out)
  have HB6d := Lib.hid HB67.out.drew
  go_wp2_with (first
    | ((with_reducible refine wpList_load_met 154 (.tmp 41) g (k * 3) x.cells _ (some 42) HRX.out Tryz.underlying154 rfl sizeVers ?hg ?ho ?hds ?hx ?_); (case ho | hg | hds | hx => rfl))
    | ((with_reducible refine wpList_store_new 154 (.tmp 6) (.tmp 42) b6 (VersD.cells ⟨0, 0, 0⟩) x.cells 154 HB6d.out rfl sizeVers (vers_one _) ?hgd ?ho ?hx ?hy ?_); (case hgd | ho | hx | hy => rfl); (intro w9 B9 o9))
    | fail)
  (try simp only [Exit.inBlock, Exit.then]); refine bodyPost_ret (results_cell1t rfl _ _ B9.range rfl Tryz.underlying154 rfl sizeVers) rfl ⟨rfl, o9.below HBE7.out.drew HL6.out⟩
set_option maxHeartbeats 1000000 in
theorem newest_walk (xb n : Nat) (xv : Value) (l : List VersD) (lba epoch : Int) (x : VersD) (w : World) (hX : Blk w xb [.bool true, xv] 297) (hR : w.ownsRow 0 154 3 xv n (flatV l)) (hl : l.length = n) (hn : n ≤ 1048576) (hx : NewestIs l lba epoch x) :
    Calls Tryz.prog 125 #[.pointer (some ⟨xb, 0, none⟩), .int .i64 lba, .int .i64 epoch] w fun e w' => e = .returned (.tuple #[.agg x.cells.toArray, .bool true]) ∧ Below w.heap.size w w' := by
  have HLA := Lib.hid (fun (wx : World) (hX : Blk wx xb [.bool true, xv] 297) (hR : wx.ownsRow 0 154 3 xv n (flatV l)) => last_walk xb n xv l lba epoch x wx hX hR hl hn hx)
  have HX := Lib.hid hX
  have HR := Lib.hid hR
  clear hX hR hl hn hx
  go_enter Tryz.func125, Tryz.ntmps125
  go_wp2_with (first
    | ((with_reducible refine wpList_alloc_new 154 _ zeroVers (some 6) ?hgd ?ho ?hd ?_); (case hgd | ho | hd => rfl); (intro b6 w6 l6 B6 e6 z6))
    | fail)
  have HB6 := Lib.hid B6
  have HL6 := Lib.hid l6
  have HBE6 := Lib.hid (e6.mono l6)
  have HX6 := Lib.hid (HX.out.below HBE6.out HX.out.lt)
  have HR6 := Lib.hid (own_below HBE6.out HR.out)
  clear B6 e6 z6 l6
  refine (ithere_walk xb _ _ HX6.out).mono ?_
  rintro e w' ⟨rfl, rfl⟩
  go_wp2_with fail
  refine (HLA.out _ HX6.out HR6.out).mono ?_
  rintro e w7 ⟨rfl, hb7⟩
  have HB7 := Lib.hid (HB6.out.below hb7 HB6.out.lt)
  have HBE7 := Lib.hid (HBE6.out.trans (hb7.mono HBE6.out.size))
  clear hb7
  go_wp2_with (first
    | ((with_reducible refine wpList_store_new 154 (.tmp 6) (.tmp 16) b6 (VersD.cells ⟨0, 0, 0⟩) x.cells 154 HB7.out rfl sizeVers (vers_one _) ?hgd ?ho ?hx ?hy ?_); (case hgd | ho | hx | hy => rfl); (intro w9 B9 o9))
    | fail)
  (try simp only [Exit.inBlock, Exit.then]); refine bodyPost_ret (results_cell1t rfl _ _ B9.range rfl Tryz.underlying154 rfl sizeVers) rfl ⟨rfl, o9.below HBE7.out HL6.out⟩
end Go.Proofs.YtppdboadjefieaaGreat

namespace Go.Proofs.YtppdboadjefieaaGreat
open Go Go.RowKit Go.Maps Go.WideMaps
set_option maxRecDepth 100000

theorem keyedIntB : Keyed Tryz.prog 3 := int_keyed Tryz.underlying3
theorem keyedStrB : Keyed Tryz.prog 9 := string_keyed Tryz.underlying9
theorem elem_bool {v : Value} {g : Bool} {ps : List MemPlace} (h : plainElem (H := Unit) Tryz.prog 4 v = some (.lit (.bool g), ps)) : v = .bool g := by
  have hu : Tryz.prog.underlying 4 = some .bool := Tryz.underlying4
  unfold plainElem at h
  rw [hu] at h
  cases v <;> simp at h
  rw [h.1]
theorem gone_run {w : World} {m n : Nat} {G : DataW Unit} {e : Int} {g : Bool} (h : w.ownsMap Tryz.prog 3 (plainElem Tryz.prog 4) m n G) (h0 : 0 ≤ e) (h1 : e ≤ 4294967295) (hg : G.atKey (.int .i64 e) (.lit (.bool false)) = .lit (.bool g)) :
    (Instr.lookup 211 (.map (some m)) (.int .i64 e) false).run Tryz.prog w = .ok (.bool g) w := by
  have hkey : keyOf Tryz.prog 3 (.int .i64 e) = some (.int .i64 e) := keyOf_int_mk Tryz.underlying3 (WalkArith.wf_i64 (by omega))
  obtain ⟨v, ps, hr, hv⟩ := h.lookup keyedIntB Tryz.underlying211 (z := .bool false) (by kernel_rfl) (plainElem_bool Tryz.underlying4 false) hkey
  rw [hg] at hv
  rw [hr, elem_bool hv]
theorem bookGone_walk (bb c2 m1 m2 m3 n : Nat) (first epoch e : Int) (U L G : DataW Unit) (g : Bool) (w : World) (h : Blk w bb (bookCells c2 first epoch m1 m2 m3) 213) (hm : BookMaps w m1 m2 m3 n U L G) (h0 : 0 ≤ e) (h1 : e ≤ 4294967295) (hg : G.atKey (.int .i64 e) (.lit (.bool false)) = .lit (.bool g)) :
    Calls Tryz.prog 69 #[.pointer (some ⟨bb, 0, none⟩), .int .i64 e] w fun x w' => x = .returned (.bool g) ∧ w = w' := by
  have hrun := gone_run hm.g h0 h1 hg
  have c5 := h.cell (i := 5) rfl
  have HB := Lib.hid h
  clear h hm hg
  go_enter Tryz.func69, Tryz.ntmps69
  go_wp2_with fail
  refine (bookThere_walk bb c2 first epoch m1 m2 m3 _ HB.out).mono ?_
  rintro e w1 ⟨rfl, rfl⟩
  go_wp2_with fail
  go_ret
  exact ⟨rfl, rfl⟩
theorem clockTick_walk (cb : Nat) (now t : Int) (w : World) (h : Blk w cb [.bool true, .int .i64 now] 224) (h0 : 0 ≤ t) (h1 : t ≤ 1099511627776) (h2 : now ≤ t) :
    Calls Tryz.prog 156 #[.pointer (some ⟨cb, 0, none⟩), .int .i64 t] w fun e w' => (e = .returned (.int .i64 0) ∧ Blk w' cb [.bool true, .int .i64 t] 224) ∧ Turned [cb] w w' := by
  have hmf : ∀ (fn : Fn) (first cap : Array Value) (w : World), (Instr.makeFunc fn first cap).run Tryz.prog w = .ok (.func fn first cap) w := fun _ _ _ _ => rfl
  have c1 := h.cell (i := 1) rfl
  have f1 := h.free 1
  have HC := Lib.hid h
  clear h
  go_enter Tryz.func156, Tryz.ntmps156
  go_wp2_with fail
  refine (clockThere_walk cb now _ HC.out).mono ?_
  rintro e w1 ⟨rfl, rfl⟩
  go_wp2_with fail
  go_ret
  exact ⟨⟨rfl, (HC.out.set 1 _).ext rfl⟩, (Turned.refl _ _).setCell (.inl (by simp)) 1 _⟩
set_option maxHeartbeats 1000000 in
theorem target1_walk (bb c2 m1 m2 m3 n : Nat) (first epoch : Int) (U L G : DataW Unit) (r : Rec) (w : World) (h : Blk w bb (bookCells c2 first epoch m1 m2 m3) 213) (hm : BookMaps w m1 m2 m3 n U L G) (hk : r.kind = 1) (hn : r.name.size ≤ 16) :
    Calls Tryz.prog 244 #[.pointer (some ⟨bb, 0, none⟩), r.v] w fun x w' => x = .returned (.int .i64 0) ∧ Below w.heap.size w w' := by
  have HB := Lib.hid h
  have HM := Lib.hid hm
  have HK := Lib.hid hk
  have HNM := Lib.hid hn
  clear h hm hk hn
  go_enter Tryz.func244, Tryz.ntmps244
  go_wp2_with (first
    | ((with_reducible refine wpList_box_new 62 (.tmp 1) r.cells (some 3) ?hgd ?ho ?hd ?hx ?_); (case hgd | ho | hd | hx => rfl); (intro b3 w3 l3 B3 e3 z3))
    | fail)
  have HB1 := Lib.hid (HB.out.below (e3.mono l3) HB.out.lt)
  have HM1 := Lib.hid (HM.out.below (e3.mono l3))
  have q0 : w3.cell? ⟨b3, 0, none⟩ = some (.int .i64 1) := by have := B3.cell (i := 0) rfl; rw [HK.out] at this; exact this
  have q7 := B3.cell (i := 7) rfl
  have c4 := HB1.out.cell (i := 4) rfl
  obtain ⟨v, ps, hrun, hv⟩ := (World.ownsMap.drew HM1.out.l).look_ok keyedStrB Tryz.underlying210 (z := .int .i64 0) (by kernel_rfl) (plainElem_int Tryz.underlying3 (by decide)) (keyOf_string_mk Tryz.underlying9 (s := r.name) (by have := HNM.out; unfold maxLen; omega))
  obtain ⟨ok, hok⟩ : ∃ ok, Maps.has L (.string r.name.data.toList) = ok := ⟨_, rfl⟩
  rw [hok] at hrun
  have HBE := Lib.hid (e3.mono l3)
  clear hv hok B3 e3 z3 l3
  refine wp_region_still_drew (by kernel_rfl) (by kernel_rfl) ?_
  repeat still_step
  refine wpStill_nil ?_
  go_wp2_with fail
  go_ret
  exact ⟨rfl, HBE.out.drew⟩
set_option maxHeartbeats 2000000 in
theorem may1_walk (bb c2 m1 m2 m3 n : Nat) (first epoch now : Int) (U L G : DataW Unit) (r : Rec) (w : World) (h : Blk w bb (bookCells c2 first epoch m1 m2 m3) 213) (hc : Blk w c2 [.bool true, .int .i64 now] 224) (hm : BookMaps w m1 m2 m3 n U L G) (hk : r.kind = 1) (hok : recOk r = true) (hep : r.epoch = epoch) (hnow : now ≤ r.time) :
    Calls Tryz.prog 155 #[.pointer (some ⟨bb, 0, none⟩), r.v] w fun x w' => x = .returned (.int .i64 0) ∧ Below w.heap.size w w' := by
  have hf := recOk_facts hok
  have HB := Lib.hid h
  have HC := Lib.hid hc
  have HM := Lib.hid hm
  have HK := Lib.hid hk
  have HOK := Lib.hid hok
  have HEP := Lib.hid hep
  have HNM := Lib.hid (show r.name.size ≤ 16 from by omega)
  have HFE := Lib.hid (show Fits r.epoch from by unfold Fits; omega)
  have hnow' : ¬ r.time < now := by omega
  clear h hc hm hk hok hep hf hnow
  go_enter Tryz.func155, Tryz.ntmps155
  go_wp2_with (first
    | ((with_reducible refine wpList_box_new 62 (.tmp 1) r.cells (some 3) ?hgd ?ho ?hd ?hx ?_); (case hgd | ho | hd | hx => rfl); (intro b3 w3 l3 B3 e3 z3))
    | fail)
  have HR3 := Lib.hid B3
  have HBE3 := Lib.hid (e3.mono l3)
  have HB3 := Lib.hid (HB.out.below (e3.mono l3) HB.out.lt)
  have HC3 := Lib.hid (HC.out.below (e3.mono l3) HC.out.lt)
  have HM3 := Lib.hid (HM.out.below (e3.mono l3))
  clear B3 e3 z3 l3
  refine (bookThere_walk bb c2 first epoch m1 m2 m3 _ HB3.out).mono ?_
  rintro e w' ⟨rfl, rfl⟩
  go_wp2_with (first
    | ((with_reducible refine wpList_load_blk 62 (.tmp 3) b3 r.cells 62 _ HR3.out Tryz.underlying62 rfl rsizeRec ?hgd ?ho ?hx ?_); (case hgd | ho | hx => rfl))
    | fail)
  refine (check_walk r _ (by have := HNM.out; omega) HFE.out).mono ?_
  rintro e w4 ⟨rfl, hb4⟩
  rw [chkI_yes HOK.out]
  have HR4 := Lib.hid (HR3.out.below hb4 HR3.out.lt)
  have HB4 := Lib.hid (HB3.out.below hb4 HB3.out.lt)
  have HC4 := Lib.hid (HC3.out.below hb4 HC3.out.lt)
  have HM4 := Lib.hid (HM3.out.below hb4)
  have HBE4 := Lib.hid (HBE3.out.trans (hb4.mono HBE3.out.size))
  clear hb4
  go_upto_region 5 with fail
  refine wp_region_held_drew (S := fun wx => wx.cell? ⟨b3, 1, none⟩ = some (.int .i64 r.epoch) ∧ wx.cell? ⟨bb, 2, none⟩ = some (.int .i64 r.epoch) ∧ wx.cell? ⟨b3, 2, none⟩ = some (.int .i64 r.time)) (by kernel_rfl) (⟨HR4.out.drew.cell (i := 1) rfl, (by have := HB4.out.drew.cell (i := 2) rfl; rw [← HEP.out] at this; exact this), HR4.out.drew.cell (i := 2) rfl⟩) (fun hHeld => ?_)
  refine wpAnyH_take (i := 0) (v := ?_) rfl (by kernel_rfl) (by kernel_rfl) (by kernel_rfl) (fun _ _ _ h => h) (Or.inl ⟨by rfl, ?_⟩) (by assumption) ?_
  rotate_left
  · intro w hSw; (try dsimp only at hSw); go_simp; first | done | with_reducible rfl
  (try simp only [Act.put, Array.getInternal_eq_getElem, List.getElem_toArray, List.getElem_cons_succ, List.getElem_cons_zero, List.setIfInBounds_toArray, List.set_cons_zero, List.set_cons_succ])
  refine wpAnyH_take (i := 1) (v := ?_) rfl (by kernel_rfl) (by kernel_rfl) (by kernel_rfl) (fun _ _ _ h => h) (Or.inl ⟨by rfl, ?_⟩) (by assumption) ?_
  rotate_left
  · intro w hSw; (try dsimp only at hSw); go_simp; first | done | with_reducible rfl
  (try simp only [Act.put, Array.getInternal_eq_getElem, List.getElem_toArray, List.getElem_cons_succ, List.getElem_cons_zero, List.setIfInBounds_toArray, List.set_cons_zero, List.set_cons_succ])
  refine wpAnyH_take (i := 2) (v := ?_) rfl (by kernel_rfl) (by kernel_rfl) (by kernel_rfl) (fun _ _ _ h => h) (Or.inl ⟨by rfl, ?_⟩) (by assumption) ?_
  rotate_left
  · intro w hSw; (try dsimp only at hSw); go_simp; first | done | with_reducible rfl
  (try simp only [Act.put, Array.getInternal_eq_getElem, List.getElem_toArray, List.getElem_cons_succ, List.getElem_cons_zero, List.setIfInBounds_toArray, List.set_cons_zero, List.set_cons_succ])
  refine wpAnyH_take (i := 3) (v := ?_) rfl (by kernel_rfl) (by kernel_rfl) (by kernel_rfl) (fun _ _ _ h => h) (Or.inl ⟨by rfl, ?_⟩) (by assumption) ?_
  rotate_left
  · intro w hSw; (try dsimp only at hSw); go_simp; first | done | with_reducible rfl
  (try simp only [Act.put, Array.getInternal_eq_getElem, List.getElem_toArray, List.getElem_cons_succ, List.getElem_cons_zero, List.setIfInBounds_toArray, List.set_cons_zero, List.set_cons_succ])
  refine wpAnyH_take (i := 4) (v := ?_) rfl (by kernel_rfl) (by kernel_rfl) (by kernel_rfl) (fun _ _ _ h => h) (Or.inl ⟨by rfl, ?_⟩) (by assumption) ?_
  rotate_left
  · intro w hSw; (try dsimp only at hSw); go_simp; first | done | with_reducible rfl
  (try simp only [Act.put, Array.getInternal_eq_getElem, List.getElem_toArray, List.getElem_cons_succ, List.getElem_cons_zero, List.setIfInBounds_toArray, List.set_cons_zero, List.set_cons_succ])
  refine wpAnyH_take (i := 5) (v := ?_) rfl (by kernel_rfl) (by kernel_rfl) (by kernel_rfl) (fun _ _ _ h => h) (Or.inl ⟨by rfl, ?_⟩) (by assumption) ?_
  rotate_left
  · intro w hSw; (try dsimp only at hSw); go_simp; first | done | with_reducible rfl
  (try simp only [Act.put, Array.getInternal_eq_getElem, List.getElem_toArray, List.getElem_cons_succ, List.getElem_cons_zero, List.setIfInBounds_toArray, List.set_cons_zero, List.set_cons_succ])
  refine wpAnyH_take (i := 6) (v := ?_) rfl (by kernel_rfl) (by kernel_rfl) (by kernel_rfl) (fun _ _ _ h => h) (Or.inl ⟨by rfl, ?_⟩) (by assumption) ?_
  rotate_left
  · intro w hSw; (try dsimp only at hSw); go_simp; first | done | with_reducible rfl
  (try simp only [Act.put, Array.getInternal_eq_getElem, List.getElem_toArray, List.getElem_cons_succ, List.getElem_cons_zero, List.setIfInBounds_toArray, List.set_cons_zero, List.set_cons_succ])
  refine wpAnyH_take (i := 7) (v := ?_) rfl (by kernel_rfl) (by kernel_rfl) (by kernel_rfl) (fun _ _ _ h => h) (Or.inl ⟨by rfl, ?_⟩) (by assumption) ?_
  rotate_left
  · intro w hSw; (try dsimp only at hSw); go_simp; first | done | with_reducible rfl
  (try simp only [Act.put, Array.getInternal_eq_getElem, List.getElem_toArray, List.getElem_cons_succ, List.getElem_cons_zero, List.setIfInBounds_toArray, List.set_cons_zero, List.set_cons_succ])
  refine wpAnyH_take (i := 8) (v := ?_) rfl (by kernel_rfl) (by kernel_rfl) (by kernel_rfl) (fun _ _ _ h => h) (Or.inl ⟨by rfl, ?_⟩) (by assumption) ?_
  rotate_left
  · intro w hSw; (try dsimp only at hSw); go_simp; first | done | with_reducible rfl
  (try simp only [Act.put, Array.getInternal_eq_getElem, List.getElem_toArray, List.getElem_cons_succ, List.getElem_cons_zero, List.setIfInBounds_toArray, List.set_cons_zero, List.set_cons_succ])
  refine wpAnyH_take (i := 9) (v := ?_) rfl (by kernel_rfl) (by kernel_rfl) (by kernel_rfl) (fun _ _ _ h => h) (Or.inl ⟨by rfl, ?_⟩) (by assumption) ?_
  rotate_left
  · intro w hSw; (try dsimp only at hSw); go_simp; first | done | with_reducible rfl
  (try simp only [Act.put, Array.getInternal_eq_getElem, List.getElem_toArray, List.getElem_cons_succ, List.getElem_cons_zero, List.setIfInBounds_toArray, List.set_cons_zero, List.set_cons_succ])
  refine wpAnyH_take (i := 10) (v := ?_) rfl (by kernel_rfl) (by kernel_rfl) (by kernel_rfl) (fun _ _ _ h => h) (Or.inl ⟨by rfl, ?_⟩) (by assumption) ?_
  rotate_left
  · intro w hSw; (try dsimp only at hSw); go_simp; first | done | with_reducible rfl
  (try simp only [Act.put, Array.getInternal_eq_getElem, List.getElem_toArray, List.getElem_cons_succ, List.getElem_cons_zero, List.setIfInBounds_toArray, List.set_cons_zero, List.set_cons_succ])
  refine wpAnyH_ready (rs := [11]) (by kernel_rfl) (by simp) ?_
  refine AllReadyH.cons rfl (fun K hK => ?_) AllReadyH.nil
  go_simp
  refine (bookNow_walk bb c2 first epoch m1 m2 m3 _ HB4.out.drew now HC4.out.drew).mono ?_
  rintro e w' ⟨rfl, rfl⟩
  (try go_wp2_with fail)
  refine hK.out _ _ (⟨HR4.out.drew.cell (i := 1) rfl, (by have := HB4.out.drew.cell (i := 2) rfl; rw [← HEP.out] at this; exact this), HR4.out.drew.cell (i := 2) rfl⟩) (fun hHeld2 => ?_)
  clear hK K hHeld
  have hHeld := hHeld2
  clear hHeld2
  (try simp only [Act.put, Array.getInternal_eq_getElem, List.getElem_toArray, List.getElem_cons_succ, List.getElem_cons_zero, List.setIfInBounds_toArray, List.set_cons_zero, List.set_cons_succ])
  refine wpAnyH_take (i := 12) (v := ?_) rfl (by kernel_rfl) (by kernel_rfl) (by kernel_rfl) (fun _ _ _ h => h) (Or.inl ⟨by rfl, ?_⟩) (by assumption) ?_
  rotate_left
  · intro w hSw; (try dsimp only at hSw); go_simp; first | done | with_reducible rfl
  (try simp only [Act.put, Array.getInternal_eq_getElem, List.getElem_toArray, List.getElem_cons_succ, List.getElem_cons_zero, List.setIfInBounds_toArray, List.set_cons_zero, List.set_cons_succ])
  refine wpAnyH_take (i := 13) (v := ?_) rfl (by kernel_rfl) (by kernel_rfl) (by kernel_rfl) (fun _ _ _ h => h) (Or.inl ⟨by rfl, ?_⟩) (by assumption) ?_
  rotate_left
  · intro w hSw; (try dsimp only at hSw); go_simp; first | done | with_reducible rfl
  (try simp only [Act.put, Array.getInternal_eq_getElem, List.getElem_toArray, List.getElem_cons_succ, List.getElem_cons_zero, List.setIfInBounds_toArray, List.set_cons_zero, List.set_cons_succ])
  refine wpAnyH_take (i := 14) (v := ?_) rfl (by kernel_rfl) (by kernel_rfl) (by kernel_rfl) (fun _ _ _ h => h) (Or.inl ⟨by rfl, ?_⟩) (by assumption) ?_
  rotate_left
  · intro w hSw; (try dsimp only at hSw); go_simp; first | done | with_reducible rfl
  (try simp only [Act.put, Array.getInternal_eq_getElem, List.getElem_toArray, List.getElem_cons_succ, List.getElem_cons_zero, List.setIfInBounds_toArray, List.set_cons_zero, List.set_cons_succ])
  refine wpAnyH_done (by kernel_rfl) ?_ _
  clear hHeld
  go_wp2_with (first
    | ((with_reducible refine wpList_load_blk 62 (.tmp 3) b3 r.cells 62 _ HR4.out.drew Tryz.underlying62 rfl rsizeRec ?hgd ?ho ?hx ?_); (case hgd | ho | hx => rfl))
    | fail)
  refine (target1_walk bb c2 m1 m2 m3 n first epoch U L G r _ HB4.out.drew ⟨HM4.out.u, HM4.out.l, HM4.out.g, HM4.out.n1, HM4.out.n2, HM4.out.n3⟩ HK.out HNM.out).mono ?_
  rintro e w6 ⟨rfl, hb6⟩
  have q0 : w6.cell? ⟨b3, 0, none⟩ = some (.int .i64 1) := by have := (HR4.out.drew.below hb6 HR4.out.lt).cell (i := 0) rfl; rw [HK.out] at this; exact this
  have HBE6 := Lib.hid (HBE4.out.drew.trans (hb6.mono HBE4.out.size))
  clear hb6
  go_wp2_with fail
  go_ret
  exact ⟨rfl, HBE6.out⟩
set_option maxHeartbeats 2000000 in
theorem apply1_walk (bb c2 m1 m2 m3 n : Nat) (first epoch now : Int) (U L G : DataW Unit) (r : Rec) (w : World) (h : Blk w bb (bookCells c2 first epoch m1 m2 m3) 213) (hc : Blk w c2 [.bool true, .int .i64 now] 224) (hm : BookMaps w m1 m2 m3 n U L G) (hk : r.kind = 1) (hok : recOk r = true) (hep : r.epoch = epoch) (hnow : now ≤ r.time) (hne : bb ≠ c2) :
    Calls Tryz.prog 65 #[.pointer (some ⟨bb, 0, none⟩), r.v] w fun x w' => (x = .returned (.int .i64 0) ∧ Blk w' bb (bookCells c2 first (epoch + 1) m1 m2 m3) 213 ∧ Blk w' c2 [.bool true, .int .i64 r.time] 224) ∧ Turned [bb, c2] w w' := by
  have hf := recOk_facts hok
  have HB := Lib.hid h
  have HC := Lib.hid hc
  have HM := Lib.hid hm
  have HK := Lib.hid hk
  have HNE := Lib.hid hne
  have HC0 := Lib.hid hc.lt
  have HT := Lib.hid (show 0 ≤ r.time ∧ r.time ≤ 1099511627776 ∧ now ≤ r.time from ⟨by omega, by omega, hnow⟩)
  have HEP := Lib.hid (show 0 ≤ epoch ∧ epoch ≤ 4294967295 from ⟨by omega, by omega⟩)
  have HMAY := Lib.hid (fun (wx : World) (a : Blk wx bb (bookCells c2 first epoch m1 m2 m3) 213) (b : Blk wx c2 [.bool true, .int .i64 now] 224) (d : BookMaps wx m1 m2 m3 n U L G) => may1_walk bb c2 m1 m2 m3 n first epoch now U L G r wx a b d hk hok hep hnow)
  clear h hc hm hk hok hep hnow hne hf
  go_enter Tryz.func65, Tryz.ntmps65
  go_wp2_with (first
    | ((with_reducible refine wpList_box_new 62 (.tmp 1) r.cells (some 3) ?hgd ?ho ?hd ?hx ?_); (case hgd | ho | hd | hx => rfl); (intro b3 w3 l3 B3 e3 z3))
    | ((with_reducible refine wpList_load_blk 62 (.tmp 3) b3 r.cells 62 _ B3 Tryz.underlying62 rfl rsizeRec ?hgd ?ho ?hx ?_); (case hgd | ho | hx => rfl))
    | fail)
  have HR3 := Lib.hid B3
  have HL3 := Lib.hid l3
  have HBE3 := Lib.hid (e3.mono l3)
  have HB3 := Lib.hid (HB.out.below (e3.mono l3) HB.out.lt)
  have HC3 := Lib.hid (HC.out.below (e3.mono l3) HC.out.lt)
  have HM3 := Lib.hid (HM.out.below (e3.mono l3))
  clear B3 e3 z3 l3
  refine (HMAY.out _ HB3.out HC3.out HM3.out).mono ?_
  rintro e w4 ⟨rfl, hb4⟩
  have HR4 := Lib.hid (HR3.out.below hb4 HR3.out.lt)
  have HB4 := Lib.hid (HB3.out.below hb4 HB3.out.lt)
  have HC4 := Lib.hid (HC3.out.below hb4 HC3.out.lt)
  have HBE4 := Lib.hid (HBE3.out.trans (hb4.mono HBE3.out.size))
  clear hb4
  go_upto_region 4 with fail
  refine wp_region_held_drew (S := fun wx => wx.cell? ⟨bb, 0, none⟩ = some (.pointer (some ⟨c2, 0, none⟩)) ∧ wx.cell? ⟨b3, 2, none⟩ = some (.int .i64 r.time)) (by kernel_rfl) (⟨HB4.out.drew.cell (i := 0) rfl, HR4.out.drew.cell (i := 2) rfl⟩) (fun hHeld => ?_)
  refine wpAnyH_take (i := 0) (v := ?_) rfl (by kernel_rfl) (by kernel_rfl) (by kernel_rfl) (fun _ _ _ h => h) (Or.inl ⟨by rfl, ?_⟩) (by assumption) ?_
  rotate_left
  · intro w hSw; (try dsimp only at hSw); go_simp; first | done | with_reducible rfl
  (try simp only [Act.put, Array.getInternal_eq_getElem, List.getElem_toArray, List.getElem_cons_succ, List.getElem_cons_zero, List.setIfInBounds_toArray, List.set_cons_zero, List.set_cons_succ])
  refine wpAnyH_take (i := 1) (v := ?_) rfl (by kernel_rfl) (by kernel_rfl) (by kernel_rfl) (fun _ _ _ h => h) (Or.inl ⟨by rfl, ?_⟩) (by assumption) ?_
  rotate_left
  · intro w hSw; (try dsimp only at hSw); go_simp; first | done | with_reducible rfl
  (try simp only [Act.put, Array.getInternal_eq_getElem, List.getElem_toArray, List.getElem_cons_succ, List.getElem_cons_zero, List.setIfInBounds_toArray, List.set_cons_zero, List.set_cons_succ])
  refine wpAnyH_take (i := 2) (v := ?_) rfl (by kernel_rfl) (by kernel_rfl) (by kernel_rfl) (fun _ _ _ h => h) (Or.inl ⟨by rfl, ?_⟩) (by assumption) ?_
  rotate_left
  · intro w hSw; (try dsimp only at hSw); go_simp; first | done | with_reducible rfl
  (try simp only [Act.put, Array.getInternal_eq_getElem, List.getElem_toArray, List.getElem_cons_succ, List.getElem_cons_zero, List.setIfInBounds_toArray, List.set_cons_zero, List.set_cons_succ])
  refine wpAnyH_take (i := 3) (v := ?_) rfl (by kernel_rfl) (by kernel_rfl) (by kernel_rfl) (fun _ _ _ h => h) (Or.inl ⟨by rfl, ?_⟩) (by assumption) ?_
  rotate_left
  · intro w hSw; (try dsimp only at hSw); go_simp; first | done | with_reducible rfl
  (try simp only [Act.put, Array.getInternal_eq_getElem, List.getElem_toArray, List.getElem_cons_succ, List.getElem_cons_zero, List.setIfInBounds_toArray, List.set_cons_zero, List.set_cons_succ])
  refine wpAnyH_take (i := 4) (v := ?_) rfl (by kernel_rfl) (by kernel_rfl) (by kernel_rfl) (fun _ _ _ h => h) (Or.inl ⟨by rfl, ?_⟩) (by assumption) ?_
  rotate_left
  · intro w hSw; (try dsimp only at hSw); go_simp; first | done | with_reducible rfl
  (try simp only [Act.put, Array.getInternal_eq_getElem, List.getElem_toArray, List.getElem_cons_succ, List.getElem_cons_zero, List.setIfInBounds_toArray, List.set_cons_zero, List.set_cons_succ])
  refine wpAnyH_take (i := 5) (v := ?_) rfl (by kernel_rfl) (by kernel_rfl) (by kernel_rfl) (fun _ _ _ h => h) (Or.inl ⟨by rfl, ?_⟩) (by assumption) ?_
  rotate_left
  · intro w hSw; (try dsimp only at hSw); go_simp; first | done | with_reducible rfl
  (try simp only [Act.put, Array.getInternal_eq_getElem, List.getElem_toArray, List.getElem_cons_succ, List.getElem_cons_zero, List.setIfInBounds_toArray, List.set_cons_zero, List.set_cons_succ])
  refine wpAnyH_ready (rs := [6]) (by kernel_rfl) (by simp) ?_
  refine AllReadyH.cons rfl (fun K hK => ?_) AllReadyH.nil
  go_simp
  refine (clockTick_walk c2 now r.time _ HC4.out.drew HT.out.1 HT.out.2.1 HT.out.2.2).mono ?_
  rintro e w5 ⟨⟨rfl, hc5⟩, ht5⟩
  have HB5 := Lib.hid (ht5.blk HB4.out.drew (by simp; exact HNE.out))
  have HR5 := Lib.hid (ht5.blk HR4.out.drew (by simp; have := HL3.out; have := HC0.out; omega))
  have HC5 := Lib.hid hc5
  have HT5 := Lib.hid ht5
  clear hc5 ht5
  (try go_wp2_with fail)
  refine hK.out _ _ (⟨HB5.out.cell (i := 0) rfl, HR5.out.cell (i := 2) rfl⟩) (fun hHeld2 => ?_)
  clear hK K hHeld
  have hHeld := hHeld2
  clear hHeld2
  (try simp only [Act.put, Array.getInternal_eq_getElem, List.getElem_toArray, List.getElem_cons_succ, List.getElem_cons_zero, List.setIfInBounds_toArray, List.set_cons_zero, List.set_cons_succ])
  refine wpAnyH_done (by kernel_rfl) ?_ _
  clear hHeld
  have q0 : w5.cell? ⟨b3, 0, none⟩ = some (.int .i64 1) := by have := HR5.out.cell (i := 0) rfl; rw [HK.out] at this; exact this
  have c2' := HB5.out.cell (i := 2) rfl
  have f2' := HB5.out.free 2
  have he1 := HEP.out.1
  have he2 := HEP.out.2
  go_wp2_with fail
  go_ret
  refine ⟨⟨rfl, (HB5.out.set 2 _).ext rfl, ?_⟩, ?_⟩
  · exact HC5.out.set_other (by show c2 ≠ bb; exact fun e => HNE.out e.symm) _
  · have t1 : Turned [bb, c2] w w4.drew := (Turned.of_below HBE4.out (Nat.le_refl _)).drew
    exact (t1.trans (HT5.out.mono (by simp))).trans ((Turned.refl _ _).setCell (.inl (by simp)) 2 _)
end Go.Proofs.YtppdboadjefieaaGreat

