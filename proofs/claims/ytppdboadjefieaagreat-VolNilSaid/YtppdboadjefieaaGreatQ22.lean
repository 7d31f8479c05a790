/- An index (chapter 14): a version is put behind all others. A volume (chapter 26): Super, Geo, place, Write. -/
import Derived.Test.YtppdboadjefieaaGreatQ21
import Derived.Test.YtppdboadjefieaaGreatQ4
import Derived.Deep.DeepAppendWide
import Derived.Test.YtppdboadjefieaaGreatQ16
import Derived.Test.YtppdboadjefieaaGreatQ17
import Derived.Test.YtppdboadjefieaaGreatQ20
set_option linter.unusedSimpArgs false
set_option linter.unusedVariables false
namespace Go.Proofs.YtppdboadjefieaaGreat
open Go Go.RowKit
set_option maxRecDepth 100000

theorem infoVers : (Tryz.prog.info? 154).map (fun i => (i.zero, i.size, i.bytes)) = some (some (.agg (VersD.cells ⟨0, 0, 0⟩).toArray), 3, 24) := by kernel_rfl
set_option maxHeartbeats 1000000 in
theorem insertNil_walk (g1 c1 : Nat) (l : List VersD) (v : VersD) (w : World) (h : w.ownsRow 0 154 3 (.slice none 0 0) 0 (flatV l)) (hv : Blk w g1 v.cells 154) :
    Calls Tryz.prog 223 #[.slice none 0 0, .int .i64 0, .slice (some ⟨g1, 0, none⟩) 1 c1] w fun e w' => (∃ xv', e = .returned xv' ∧ w'.ownsRow 0 154 3 xv' (0 + 1) (flatV (l ++ [v])) ∧ Near w (.slice none 0 0 : Value).ownBlock xv'.ownBlock) ∧ w.grownBy w' (.slice none 0 0 : Value).ownBlock := by
  obtain ⟨i0, hi, hz0, hz1, hz2⟩ := info_parts infoVers
  have HV := Lib.hid hv
  have HS := Lib.hid h
  have HL1 := Lib.hid (show 0 + 1 ≤ maxLen from by unfold maxLen; omega)
  have HL2 := Lib.hid (show (0 + 1) * 24 ≤ 140737488355328 from by omega)
  clear h hv
  go_enter Tryz.func223, Tryz.ntmps223
  go_wp2_with (first
    | (at_builtin; refine wpList_append_at (n := 0) (xs := flatV l) (w := w) _ _ 217 rfl rfl i0 (.agg (VersD.cells ⟨0, 0, 0⟩).toArray) 24 Tryz.underlying217 hi hz0 hz1 hz2 rfl (by decide) rfl HS.out ⟨g1, 0, none⟩ 1 c1 v.cells rfl rfl (cells_add HV.out) (by intro u hu; simp [VersD.cells] at hu; rcases hu with rfl | rfl | rfl <;> rfl) HL1.out HL2.out (Nat.zero_le _) ?_; intro v2 w2 own2 grow2 near2)
    | fail)
  all_goals (go_ret; exact ⟨⟨v2, rfl, by rw [flatV_append]; exact own2, near2⟩, grow2⟩)
set_option maxHeartbeats 1000000 in
theorem insertSome_walk (g g1 c1 n c : Nat) (l : List VersD) (v : VersD) (w : World) (h : w.ownsRow 0 154 3 (.slice (some ⟨g, 0, none⟩) n c) n (flatV l)) (hni : (n : Int) ≤ 1048576) (hci : (n : Int) ≤ (c : Int)) (hv : Blk w g1 v.cells 154) :
    Calls Tryz.prog 223 #[.slice (some ⟨g, 0, none⟩) n c, .int .i64 (n : Int), .slice (some ⟨g1, 0, none⟩) 1 c1] w fun e w' => (∃ xv', e = .returned xv' ∧ w'.ownsRow 0 154 3 xv' (n + 1) (flatV (l ++ [v])) ∧ Near w (.slice (some ⟨g, 0, none⟩) n c : Value).ownBlock xv'.ownBlock) ∧ w.grownBy w' (.slice (some ⟨g, 0, none⟩) n c : Value).ownBlock := by
  obtain ⟨i0, hi, hz0, hz1, hz2⟩ := info_parts infoVers
  have HV := Lib.hid hv
  have HS := Lib.hid h
  have HL1 := Lib.hid (show n + 1 ≤ maxLen from by unfold maxLen; omega)
  have HL2 := Lib.hid (show (n + 1) * 24 ≤ 140737488355328 from by omega)
  clear h hv
  go_enter Tryz.func223, Tryz.ntmps223
  go_wp2_with (first
    | (at_builtin; refine wpList_append_at (n := n) (xs := flatV l) (w := w) _ _ 217 rfl rfl i0 (.agg (VersD.cells ⟨0, 0, 0⟩).toArray) 24 Tryz.underlying217 hi hz0 hz1 hz2 rfl (by decide) rfl HS.out ⟨g1, 0, none⟩ 1 c1 v.cells rfl rfl (cells_add HV.out) (by intro u hu; simp [VersD.cells] at hu; rcases hu with rfl | rfl | rfl <;> rfl) HL1.out HL2.out (Nat.zero_le _) ?_; intro v2 w2 own2 grow2 near2)
    | fail)
  all_goals (go_ret; exact ⟨⟨v2, rfl, by rw [flatV_append]; exact own2, near2⟩, grow2⟩)
theorem insertEnd_walk (g1 c1 n : Nat) (xv : Value) (l : List VersD) (v : VersD) (w : World) (h : w.ownsRow 0 154 3 xv n (flatV l)) (hn : n ≤ 1048576) (hv : Blk w g1 v.cells 154) :
    Calls Tryz.prog 223 #[xv, .int .i64 (n : Int), .slice (some ⟨g1, 0, none⟩) 1 c1] w fun e w' => (∃ xv', e = .returned xv' ∧ w'.ownsRow 0 154 3 xv' (n + 1) (flatV (l ++ [v])) ∧ Near w xv.ownBlock xv'.ownBlock) ∧ w.grownBy w' xv.ownBlock := by
  have h0 := h
  rcases h.2 with ⟨rfl, rfl⟩ | ⟨g, cap, cur, rfl, _, _, hc, _⟩
  · exact insertNil_walk g1 c1 l v w h0 hv
  · exact insertSome_walk g g1 c1 n cap l v w h0 (by omega) (by omega) hv
theorem own_is {w : World} {base size n : Nat} {e : TypeId} {v : Value} {xs : List Value} (h : w.ownsRow base e size v n xs) {k : Nat} (hk : v.ownBlock = some k) : ∃ cs fz, w.heap[k]? = some (.cells cs e fz) := by
  rcases h.2 with ⟨rfl, _⟩ | ⟨g, cap, cur, rfl, _, hg, _⟩
  · cases hk
  · injection hk with hk; subst hk; exact ⟨_, _, hg⟩
theorem sizeVers' {v : VersD} : (Tryz.prog.info? 154).map (·.size) = some ([.int .i64 v.lba, .int .i64 v.epoch, .int .i64 v.slot] : List Value).length := by kernel_rfl
theorem bsearch0_walk (v : VersD) (w : World) :
    Calls Tryz.prog 221 #[.slice none 0 0, .agg v.cells.toArray, .func (.func 222) #[] #[]] w fun e w' => e = .returned (.tuple #[.int .i64 0, .bool false]) ∧ Below w.heap.size w w' := by
  go_enter Tryz.func221, Tryz.ntmps221
  go_wp2_with (first
    | ((with_reducible refine wpList_box_new 154 (.tmp 1) v.cells (some 4) ?hgd ?ho ?hd ?hx ?_); (case hgd | ho | hd | hx => rfl); (intro b1 w1 l1 B1 e1 z1))
    | fail)
  have HBE := Lib.hid (e1.mono l1)
  clear B1 e1 z1 l1
  go_loopw [9, 10] (fun s9 s10 wr => s9 = .int .i64 0 ∧ s10 = .int .i64 0 ∧ wr = w1) (fun _ _ _ => 0)
  case atStart => exact ⟨rfl, rfl, rfl⟩
  case round =>
    obtain ⟨rfl, rfl, rfl⟩ := hrel
    go_wp2_with fail
    refine wp_region_held_drew (S := fun wx => True) (by kernel_rfl) (trivial) (fun hHeld => ?_)
    refine wpAnyH_take (i := 0) (v := ?_) rfl (by kernel_rfl) (by kernel_rfl) (by kernel_rfl) (fun _ _ _ h => h) (Or.inl ⟨by rfl, ?_⟩) (by assumption) ?_
    rotate_left
    · intro w hSw; (try dsimp only at hSw); go_simp; first | done | with_reducible rfl
    (try simp only [Act.put, Array.getInternal_eq_getElem, List.getElem_toArray, List.getElem_cons_succ, List.getElem_cons_zero, List.setIfInBounds_toArray, List.set_cons_zero, List.set_cons_succ])
    refine wpAnyH_take (i := 1) (v := ?_) rfl (by kernel_rfl) (by kernel_rfl) (by kernel_rfl) (fun _ _ _ h => h) (Or.inl ⟨by rfl, ?_⟩) (by assumption) ?_
    rotate_left
    · intro w hSw; (try dsimp only at hSw); go_simp; first | done | with_reducible rfl
    (try simp only [Act.put, Array.getInternal_eq_getElem, List.getElem_toArray, List.getElem_cons_succ, List.getElem_cons_zero, List.setIfInBounds_toArray, List.set_cons_zero, List.set_cons_succ])
    refine wpAnyH_take (i := 2) (v := ?_) rfl (by kernel_rfl) (by kernel_rfl) (by kernel_rfl) (fun _ _ _ h => h) (Or.inl ⟨by rfl, ?_⟩) (by assumption) ?_
    rotate_left
    · intro w hSw; (try dsimp only at hSw); go_simp; first | done | with_reducible rfl
    (try simp only [Act.put, Array.getInternal_eq_getElem, List.getElem_toArray, List.getElem_cons_succ, List.getElem_cons_zero, List.setIfInBounds_toArray, List.set_cons_zero, List.set_cons_succ])
    refine wpAnyH_take (i := 3) (v := ?_) rfl (by kernel_rfl) (by kernel_rfl) (by kernel_rfl) (fun _ _ _ h => h) (Or.inl ⟨by rfl, ?_⟩) (by assumption) ?_
    rotate_left
    · intro w hSw; (try dsimp only at hSw); go_simp; first | done | with_reducible rfl
    (try simp only [Act.put, Array.getInternal_eq_getElem, List.getElem_toArray, List.getElem_cons_succ, List.getElem_cons_zero, List.setIfInBounds_toArray, List.set_cons_zero, List.set_cons_succ])
    refine wpAnyH_take (i := 4) (v := ?_) rfl (by kernel_rfl) (by kernel_rfl) (by kernel_rfl) (fun _ _ _ h => h) (Or.inl ⟨by rfl, ?_⟩) (by assumption) ?_
    rotate_left
    · intro w hSw; (try dsimp only at hSw); go_simp; first | done | with_reducible rfl
    (try simp only [Act.put, Array.getInternal_eq_getElem, List.getElem_toArray, List.getElem_cons_succ, List.getElem_cons_zero, List.setIfInBounds_toArray, List.set_cons_zero, List.set_cons_succ])
    refine wpAnyH_take (i := 5) (v := undef) rfl (by kernel_rfl) (by kernel_rfl) (by kernel_rfl) (fun _ _ _ h => h) (Or.inr ⟨by rfl, rfl⟩) (by assumption) ?_
    (try simp only [Act.put, Array.getInternal_eq_getElem, List.getElem_toArray, List.getElem_cons_succ, List.getElem_cons_zero, List.setIfInBounds_toArray, List.set_cons_zero, List.set_cons_succ])
    refine wpAnyH_take (i := 6) (v := undef) rfl (by kernel_rfl) (by kernel_rfl) (by kernel_rfl) (fun _ _ _ h => h) (Or.inr ⟨by rfl, rfl⟩) (by assumption) ?_
    (try simp only [Act.put, Array.getInternal_eq_getElem, List.getElem_toArray, List.getElem_cons_succ, List.getElem_cons_zero, List.setIfInBounds_toArray, List.set_cons_zero, List.set_cons_succ])
    refine wpAnyH_take (i := 7) (v := undef) rfl (by kernel_rfl) (by kernel_rfl) (by kernel_rfl) (fun _ _ _ h => h) (Or.inr ⟨by rfl, rfl⟩) (by assumption) ?_
    (try simp only [Act.put, Array.getInternal_eq_getElem, List.getElem_toArray, List.getElem_cons_succ, List.getElem_cons_zero, List.setIfInBounds_toArray, List.set_cons_zero, List.set_cons_succ])
    refine wpAnyH_take (i := 8) (v := undef) rfl (by kernel_rfl) (by kernel_rfl) (by kernel_rfl) (fun _ _ _ h => h) (Or.inr ⟨by rfl, rfl⟩) (by assumption) ?_
    (try simp only [Act.put, Array.getInternal_eq_getElem, List.getElem_toArray, List.getElem_cons_succ, List.getElem_cons_zero, List.setIfInBounds_toArray, List.set_cons_zero, List.set_cons_succ])
    refine wpAnyH_take (i := 9) (v := undef) rfl (by kernel_rfl) (by kernel_rfl) (by kernel_rfl) (fun _ _ _ h => h) (Or.inr ⟨by rfl, rfl⟩) (by assumption) ?_
    (try simp only [Act.put, Array.getInternal_eq_getElem, List.getElem_toArray, List.getElem_cons_succ, List.getElem_cons_zero, List.setIfInBounds_toArray, List.set_cons_zero, List.set_cons_succ])
    refine wpAnyH_take (i := 10) (v := undef) rfl (by kernel_rfl) (by kernel_rfl) (by kernel_rfl) (fun _ _ _ h => h) (Or.inr ⟨by rfl, rfl⟩) (by assumption) ?_
    (try simp only [Act.put, Array.getInternal_eq_getElem, List.getElem_toArray, List.getElem_cons_succ, List.getElem_cons_zero, List.setIfInBounds_toArray, List.set_cons_zero, List.set_cons_succ])
    refine wpAnyH_take (i := 11) (v := undef) rfl (by kernel_rfl) (by kernel_rfl) (by kernel_rfl) (fun _ _ _ h => h) (Or.inr ⟨by rfl, rfl⟩) (by assumption) ?_
    (try simp only [Act.put, Array.getInternal_eq_getElem, List.getElem_toArray, List.getElem_cons_succ, List.getElem_cons_zero, List.setIfInBounds_toArray, List.set_cons_zero, List.set_cons_succ])
    refine wpAnyH_take (i := 12) (v := undef) rfl (by kernel_rfl) (by kernel_rfl) (by kernel_rfl) (fun _ _ _ h => h) (Or.inr ⟨by rfl, rfl⟩) (by assumption) ?_
    (try simp only [Act.put, Array.getInternal_eq_getElem, List.getElem_toArray, List.getElem_cons_succ, List.getElem_cons_zero, List.setIfInBounds_toArray, List.set_cons_zero, List.set_cons_succ])
    refine wpAnyH_take (i := 13) (v := ?_) rfl (by kernel_rfl) (by kernel_rfl) (by kernel_rfl) (fun _ _ _ h => h) (Or.inl ⟨by rfl, ?_⟩) (by assumption) ?_
    rotate_left
    · intro w hSw; (try dsimp only at hSw); go_simp; first | done | with_reducible rfl
    (try simp only [Act.put, Array.getInternal_eq_getElem, List.getElem_toArray, List.getElem_cons_succ, List.getElem_cons_zero, List.setIfInBounds_toArray, List.set_cons_zero, List.set_cons_succ])
    refine wpAnyH_take (i := 14) (v := ?_) rfl (by kernel_rfl) (by kernel_rfl) (by kernel_rfl) (fun _ _ _ h => h) (Or.inl ⟨by rfl, ?_⟩) (by assumption) ?_
    rotate_left
    · intro w hSw; (try dsimp only at hSw); go_simp; first | done | with_reducible rfl
    (try simp only [Act.put, Array.getInternal_eq_getElem, List.getElem_toArray, List.getElem_cons_succ, List.getElem_cons_zero, List.setIfInBounds_toArray, List.set_cons_zero, List.set_cons_succ])
    refine wpAnyH_take (i := 15) (v := ?_) rfl (by kernel_rfl) (by kernel_rfl) (by kernel_rfl) (fun _ _ _ h => h) (Or.inl ⟨by rfl, ?_⟩) (by assumption) ?_
    rotate_left
    · intro w hSw; (try dsimp only at hSw); go_simp; first | done | with_reducible rfl
    (try simp only [Act.put, Array.getInternal_eq_getElem, List.getElem_toArray, List.getElem_cons_succ, List.getElem_cons_zero, List.setIfInBounds_toArray, List.set_cons_zero, List.set_cons_succ])
    refine wpAnyH_done (by kernel_rfl) ?_ _
    clear hHeld
    go_wp2_with fail
    go_ret2
    exact ⟨rfl, HBE.out.drew⟩
theorem bsearch_any (n : Nat) (xv : Value) (l : List VersD) (v : VersD) (w : World) (h : w.ownsRow 0 154 3 xv n (flatV l)) (hn : l.length = n) (hb : n ≤ 1048576)
    (hmono : ∀ (i j : Nat) (a b : VersD), l[i]? = some a → l[j]? = some b → i ≤ j → cmpV b v < 0 → cmpV a v < 0) (hne : ∀ (t : Nat) (x : VersD), l[t]? = some x → cmpV x v ≠ 0) :
    Calls Tryz.prog 221 #[xv, .agg v.cells.toArray, .func (.func 222) #[] #[]] w fun e w' => (∃ i : Nat, e = .returned (.tuple #[.int .i64 (i : Int), .bool false]) ∧ StandsAt l v i) ∧ Below w.heap.size w w' := by
  by_cases h0 : 0 < n
  · obtain ⟨g, cap, z, rfl, hc, hb2, hk⟩ := own_split h h0
    exact bsearchV_walk g cap n l z v w hk hn hb hmono hne
  · obtain rfl : n = 0 := by omega
    have hl : l = [] := List.eq_nil_of_length_eq_zero hn
    subst hl
    rcases h.2 with ⟨rfl, _⟩ | ⟨g, cap, cur, rfl, _, _, _⟩
    · exact (bsearch0_walk v w).mono fun e w' hh => ⟨⟨0, hh.1, ⟨Nat.le_refl _, fun t x hx => by simp at hx, fun t x hx => by simp at hx⟩⟩, hh.2⟩
    · obtain ⟨p, c, z, hbk⟩ : ∃ (p c : Nat) (z : List Value), Blk w g (flatV [] ++ z) 154 := ⟨0, 0, cur.toList, by simp [flatV, Blk]; assumption⟩
      exact bsearchV_walk g cap 0 [] z v w hbk rfl hb hmono hne
set_option maxHeartbeats 4000000 in
theorem add_walk (xb n : Nat) (xv : Value) (l : List VersD) (v : VersD) (w : World) (hX : Blk w xb [.bool true, xv] 297) (hR : w.ownsRow 0 154 3 xv n (flatV l)) (hl : l.length = n) (hn : n ≤ 1048575) (hv : VersOk v) (hlt : ∀ (t : Nat) (x : VersD), l[t]? = some x → cmpV x v < 0) :
    Calls Tryz.prog 124 #[.pointer (some ⟨xb, 0, none⟩), .agg v.cells.toArray] w fun e w' => (e = .returned (.int .i64 0) ∧ ∃ xv', Blk w' xb [.bool true, xv'] 297 ∧ w'.ownsRow 0 154 3 xv' (n + 1) (flatV (l ++ [v])) ∧ ∀ k, xv'.ownBlock = some k → xv.ownBlock = some k ∨ w.heap.size ≤ k) ∧ Turned (xb :: xv.ownBlock.toList) w w' := by
  obtain ⟨p, c, hpc⟩ := own_shape hR
  have HEND := Lib.hid (fun (i : Nat) (h : StandsAt l v i) => show i = n from by
    have h1 := h.le
    rcases Nat.lt_or_ge i l.length with h2 | h2
    · have h3 := h.behind i _ (List.getElem?_eq_getElem h2) (Nat.le_refl _)
      have h4 := hlt i _ (List.getElem?_eq_getElem h2)
      omega
    · omega)
  have HBS := Lib.hid (fun (wx : World) (h : wx.ownsRow 0 154 3 xv n (flatV l)) => bsearch_any n xv l v wx h hl (by omega) (fun i j a b ha _ _ _ => hlt i a ha) (fun t x hx => by have := hlt t x hx; omega))
  have HIN := Lib.hid (fun (wx : World) (g1 : Nat) (h : wx.ownsRow 0 154 3 xv n (flatV l)) (hr : Blk wx g1 v.cells 154) => insertEnd_walk g1 1 n xv l v wx h (by omega) hr)
  have HV := Lib.hid hv
  have HXw := Lib.hid hX
  have HRw := Lib.hid hR
  have HLT := Lib.hid (fun k (hk : xv.ownBlock = some k) => (hR.lt k hk).2)
  have HNX := Lib.hid (show some xb ≠ xv.ownBlock from by
    intro e
    obtain ⟨cs, fz, h1⟩ : ∃ cs fz, w.heap[xb]? = some (.cells cs 154 fz) := by
      rcases hR.2 with ⟨rfl, _⟩ | ⟨g, cap, cur, rfl, _, hg, _⟩
      · cases e
      · injection e with e; subst e; exact ⟨_, _, hg⟩
    have h2 := hX
    unfold Blk at h2
    rw [h1] at h2
    injection h2 with h2
    injection h2 with _ h2
    exact absurd h2 (by decide))
  subst hpc
  clear hX hR hl hn hv hlt
  go_enter Tryz.func124, Tryz.ntmps124
  go_wp2_with (first
    | ((with_reducible refine wpList_box_new 154 (.tmp 1) v.cells (some 3) ?hgd ?ho ?hd ?hx ?_); (case hgd | ho | hd | hx => rfl); (intro b1 w1 l1 B1 e1 z1))
    | fail)
  have HB1 := Lib.hid B1
  have HBE1 := Lib.hid (e1.mono l1)
  have HX1 := Lib.hid (HXw.out.below (e1.mono l1) HXw.out.lt)
  have HR1 := Lib.hid (own_below (e1.mono l1) HRw.out)
  have HNB := Lib.hid (show some b1 ≠ (Value.slice p n c).ownBlock from fun e => by have := HLT.out b1 e.symm; omega)
  clear B1 e1 z1 l1
  refine (ithere_walk xb _ _ HX1.out).mono ?_
  rintro e w' ⟨rfl, rfl⟩
  go_wp2_with (first
    | ((with_reducible refine wpList_load_blk 154 (.tmp 3) b1 v.cells 154 _ HB1.out Tryz.underlying154 rfl sizeVers ?hgd ?ho ?hx ?_); (case hgd | ho | hx => rfl))
    | fail)
  refine (imay_walk v _ HV.out).mono ?_
  rintro e w2 ⟨rfl, hb2⟩
  have HB2 := Lib.hid (show Blk w2 b1 ([.int .i64 v.lba, .int .i64 v.epoch, .int .i64 v.slot]) 154 from HB1.out.below hb2 HB1.out.lt)
  have HBE2 := Lib.hid (HBE1.out.trans (hb2.mono HBE1.out.size))
  have HX2 := Lib.hid (HX1.out.below hb2 HX1.out.lt)
  have HR2 := Lib.hid (own_below hb2 HR1.out)
  clear hb2
  have HXw2 := HX2
  have HBw2 := HB2
  have HRw2 := HR2
  have HBEw2 := HBE2
  go_upto_region 5 with fail
  refine wp_region_held_drew (S := fun wx => wx.cell? ⟨xb, 1, none⟩ = some (.slice p n c) ∧ wx.rangeAt b1 0 ([.int .i64 v.lba, .int .i64 v.epoch, .int .i64 v.slot])) (by kernel_rfl) (⟨HXw2.out.drew.cell (i := 1) rfl, HBw2.out.drew.range⟩) (fun hHeld => ?_)
  obtain ⟨wd, hwd⟩ : ∃ wd, wd = w2.drew := ⟨_, rfl⟩
  have hbd : Below w2.heap.size w2 wd := by rw [hwd]; exact (Below.refl _ _).drew
  have HXwd := Lib.hid (HXw2.out.below hbd HXw2.out.lt)
  have HBwd := Lib.hid (HBw2.out.below hbd HBw2.out.lt)
  have HRwd := Lib.hid (own_below hbd HRw2.out)
  have HBEwd := Lib.hid (HBEw2.out.trans (hbd.mono HBEw2.out.size))
  rw [← hwd]
  rw [← hwd] at hHeld
  clear hwd hbd
  refine wpAnyH_take (i := 0) (v := ?_) rfl (by kernel_rfl) (by kernel_rfl) (by kernel_rfl) (fun _ _ _ h => h) (Or.inl ⟨by rfl, ?_⟩) (by assumption) ?_
  rotate_left
  · intro w hSw; (try dsimp only at hSw); go_simp; first | done | with_reducible rfl
  (try simp only [Act.put, Array.getInternal_eq_getElem, List.getElem_toArray, List.getElem_cons_succ, List.getElem_cons_zero, List.setIfInBounds_toArray, List.set_cons_zero, List.set_cons_succ])
  refine wpAnyH_take (i := 1) (v := ?_) rfl (by kernel_rfl) (by kernel_rfl) (by kernel_rfl) (fun _ _ _ h => h) (Or.inl ⟨by rfl, ?_⟩) (by assumption) ?_
  rotate_left
  · intro w hSw; (try dsimp only at hSw); go_simp; first | done | with_reducible rfl
  (try simp only [Act.put, Array.getInternal_eq_getElem, List.getElem_toArray, List.getElem_cons_succ, List.getElem_cons_zero, List.setIfInBounds_toArray, List.set_cons_zero, List.set_cons_succ])
  refine wpAnyH_take (i := 2) (v := ?_) rfl (by kernel_rfl) (by kernel_rfl) (by kernel_rfl) (fun _ _ _ h => h) (Or.inl ⟨by rfl, ?_⟩) (by assumption) ?_
  rotate_left
  · intro w hSw; (try dsimp only at hSw); go_simp; first | done | with_reducible rfl
  (try simp only [Act.put, Array.getInternal_eq_getElem, List.getElem_toArray, List.getElem_cons_succ, List.getElem_cons_zero, List.setIfInBounds_toArray, List.set_cons_zero, List.set_cons_succ])
  refine wpAnyH_take (i := 3) (v := ?_) rfl (by kernel_rfl) (by kernel_rfl) (by kernel_rfl) (fun _ _ _ h => h) (Or.inl ⟨by rfl, ?_⟩) (by assumption) ?_
  rotate_left
  · intro w hSw; (try dsimp only at hSw); go_simp; first | done | with_reducible rfl
  (try simp only [Act.put, Array.getInternal_eq_getElem, List.getElem_toArray, List.getElem_cons_succ, List.getElem_cons_zero, List.setIfInBounds_toArray, List.set_cons_zero, List.set_cons_succ])
  refine wpAnyH_take (i := 4) (v := .agg ([.int .i64 v.lba, .int .i64 v.epoch, .int .i64 v.slot]).toArray) rfl (by kernel_rfl) (by kernel_rfl) (by kernel_rfl) (fun _ _ _ h => h) (yieldsIf_load_mid (by rfl) 154 (.tmp 3) rfl b1 0 rfl ([.int .i64 v.lba, .int .i64 v.epoch, .int .i64 v.slot]) _ (fun w h => h.2) Tryz.underlying154 rfl sizeVers') (by assumption) ?_
  (try simp only [Act.put, Array.getInternal_eq_getElem, List.getElem_toArray, List.getElem_cons_succ, List.getElem_cons_zero, List.setIfInBounds_toArray, List.set_cons_zero, List.set_cons_succ])
  refine wpAnyH_ready (rs := [5]) (by kernel_rfl) (by simp) ?_
  refine AllReadyH.cons rfl (fun K hK => ?_) AllReadyH.nil
  go_simp
  refine (HBS.out _ HRwd.out).mono ?_
  rintro e we ⟨⟨at_, rfl, hat⟩, hbe⟩
  have HXwe := Lib.hid (HXwd.out.below hbe HXwd.out.lt)
  have HBwe := Lib.hid (HBwd.out.below hbe HBwd.out.lt)
  have HRwe := Lib.hid (own_below hbe HRwd.out)
  have HBEwe := Lib.hid (HBEwd.out.trans (hbe.mono HBEwd.out.size))
  obtain rfl : n = at_ := (HEND.out at_ hat).symm
  clear hbe hat
  (try go_wp2_with fail)
  refine hK.out _ _ (⟨HXwe.out.cell (i := 1) rfl, HBwe.out.range⟩) (fun hHeld2 => ?_)
  clear hK K hHeld
  have hHeld := hHeld2
  clear hHeld2
  (try simp only [Act.put, Array.getInternal_eq_getElem, List.getElem_toArray, List.getElem_cons_succ, List.getElem_cons_zero, List.setIfInBounds_toArray, List.set_cons_zero, List.set_cons_succ])
  refine wpAnyH_take (i := 6) (v := ?_) rfl (by kernel_rfl) (by kernel_rfl) (by kernel_rfl) (fun _ _ _ h => h) (Or.inl ⟨by rfl, ?_⟩) (by assumption) ?_
  rotate_left
  · intro w hSw; (try dsimp only at hSw); go_simp; first | done | with_reducible rfl
  (try simp only [Act.put, Array.getInternal_eq_getElem, List.getElem_toArray, List.getElem_cons_succ, List.getElem_cons_zero, List.setIfInBounds_toArray, List.set_cons_zero, List.set_cons_succ])
  refine wpAnyH_take (i := 7) (v := ?_) rfl (by kernel_rfl) (by kernel_rfl) (by kernel_rfl) (fun _ _ _ h => h) (Or.inl ⟨by rfl, ?_⟩) (by assumption) ?_
  rotate_left
  · intro w hSw; (try dsimp only at hSw); go_simp; first | done | with_reducible rfl
  (try simp only [Act.put, Array.getInternal_eq_getElem, List.getElem_toArray, List.getElem_cons_succ, List.getElem_cons_zero, List.setIfInBounds_toArray, List.set_cons_zero, List.set_cons_succ])
  refine wpAnyH_take (i := 8) (v := ?_) rfl (by kernel_rfl) (by kernel_rfl) (by kernel_rfl) (fun _ _ _ h => h) (Or.inl ⟨by rfl, ?_⟩) (by assumption) ?_
  rotate_left
  · intro w hSw; (try dsimp only at hSw); go_simp; first | done | with_reducible rfl
  (try simp only [Act.put, Array.getInternal_eq_getElem, List.getElem_toArray, List.getElem_cons_succ, List.getElem_cons_zero, List.setIfInBounds_toArray, List.set_cons_zero, List.set_cons_succ])
  refine wpAnyH_take (i := 9) (v := ?_) rfl (by kernel_rfl) (by kernel_rfl) (by kernel_rfl) (fun _ _ _ h => h) (Or.inl ⟨by rfl, ?_⟩) (by assumption) ?_
  rotate_left
  · intro w hSw; (try dsimp only at hSw); go_simp; first | done | with_reducible rfl
  (try simp only [Act.put, Array.getInternal_eq_getElem, List.getElem_toArray, List.getElem_cons_succ, List.getElem_cons_zero, List.setIfInBounds_toArray, List.set_cons_zero, List.set_cons_succ])
  refine wpAnyH_take (i := 10) (v := ?_) rfl (by kernel_rfl) (by kernel_rfl) (by kernel_rfl) (fun _ _ _ h => h) (Or.inl ⟨by rfl, ?_⟩) (by assumption) ?_
  rotate_left
  · intro w hSw; (try dsimp only at hSw); go_simp; first | done | with_reducible rfl
  (try simp only [Act.put, Array.getInternal_eq_getElem, List.getElem_toArray, List.getElem_cons_succ, List.getElem_cons_zero, List.setIfInBounds_toArray, List.set_cons_zero, List.set_cons_succ])
  refine wpAnyH_done (by kernel_rfl) ?_ _
  clear hHeld
  go_upto_region 8 with fail
  refine wp_region_held_drew (S := fun wx => wx.rangeAt b1 0 ([.int .i64 v.lba, .int .i64 v.epoch, .int .i64 v.slot])) (by kernel_rfl) (HBwe.out.drew.range) (fun hHeld => ?_)
  obtain ⟨wf, hwd⟩ : ∃ wd, wd = we.drew := ⟨_, rfl⟩
  have hbd : Below we.heap.size we wf := by rw [hwd]; exact (Below.refl _ _).drew
  have HXwf := Lib.hid (HXwe.out.below hbd HXwe.out.lt)
  have HBwf := Lib.hid (HBwe.out.below hbd HBwe.out.lt)
  have HRwf := Lib.hid (own_below hbd HRwe.out)
  have HBEwf := Lib.hid (HBEwe.out.trans (hbd.mono HBEwe.out.size))
  rw [← hwd]
  rw [← hwd] at hHeld
  clear hwd hbd
  refine wpAnyH_take (i := 0) (v := ?_) rfl (by kernel_rfl) (by kernel_rfl) (by kernel_rfl) (fun _ _ _ h => h) (Or.inl ⟨by rfl, ?_⟩) (by assumption) ?_
  rotate_left
  · intro w hSw; (try dsimp only at hSw); go_simp; first | done | with_reducible rfl
  (try simp only [Act.put, Array.getInternal_eq_getElem, List.getElem_toArray, List.getElem_cons_succ, List.getElem_cons_zero, List.setIfInBounds_toArray, List.set_cons_zero, List.set_cons_succ])
  refine wpAnyH_take (i := 1) (v := ?_) rfl (by kernel_rfl) (by kernel_rfl) (by kernel_rfl) (fun _ _ _ h => h) (Or.inl ⟨by rfl, ?_⟩) (by assumption) ?_
  rotate_left
  · intro w hSw; (try dsimp only at hSw); go_simp; first | done | with_reducible rfl
  (try simp only [Act.put, Array.getInternal_eq_getElem, List.getElem_toArray, List.getElem_cons_succ, List.getElem_cons_zero, List.setIfInBounds_toArray, List.set_cons_zero, List.set_cons_succ])
  refine wpAnyH_take (i := 2) (v := ?_) rfl (by kernel_rfl) (by kernel_rfl) (by kernel_rfl) (fun _ _ _ h => h) (Or.inl ⟨by rfl, ?_⟩) (by assumption) ?_
  rotate_left
  · intro w hSw; (try dsimp only at hSw); go_simp; first | done | with_reducible rfl
  (try simp only [Act.put, Array.getInternal_eq_getElem, List.getElem_toArray, List.getElem_cons_succ, List.getElem_cons_zero, List.setIfInBounds_toArray, List.set_cons_zero, List.set_cons_succ])
  refine wpAnyH_take (i := 3) (v := ?_) rfl (by kernel_rfl) (by kernel_rfl) (by kernel_rfl) (fun _ _ _ h => h) (Or.inl ⟨by rfl, ?_⟩) (by assumption) ?_
  rotate_left
  · intro w hSw; (try dsimp only at hSw); go_simp; first | done | with_reducible rfl
  (try simp only [Act.put, Array.getInternal_eq_getElem, List.getElem_toArray, List.getElem_cons_succ, List.getElem_cons_zero, List.setIfInBounds_toArray, List.set_cons_zero, List.set_cons_succ])
  refine wpAnyH_take (i := 5) (v := ?_) rfl (by kernel_rfl) (by kernel_rfl) (by kernel_rfl) (fun _ _ _ h => h) (Or.inl ⟨by rfl, ?_⟩) (by assumption) ?_
  rotate_left
  · intro w hSw; (try dsimp only at hSw); go_simp; first | done | with_reducible rfl
  (try simp only [Act.put, Array.getInternal_eq_getElem, List.getElem_toArray, List.getElem_cons_succ, List.getElem_cons_zero, List.setIfInBounds_toArray, List.set_cons_zero, List.set_cons_succ])
  refine wpAnyH_take (i := 6) (v := .agg ([.int .i64 v.lba, .int .i64 v.epoch, .int .i64 v.slot]).toArray) rfl (by kernel_rfl) (by kernel_rfl) (by kernel_rfl) (fun _ _ _ h => h) (yieldsIf_load_mid (by rfl) 154 (.tmp 3) rfl b1 0 rfl ([.int .i64 v.lba, .int .i64 v.epoch, .int .i64 v.slot]) _ (fun w h => h) Tryz.underlying154 rfl sizeVers') (by assumption) ?_
  (try simp only [Act.put, Array.getInternal_eq_getElem, List.getElem_toArray, List.getElem_cons_succ, List.getElem_cons_zero, List.setIfInBounds_toArray, List.set_cons_zero, List.set_cons_succ])
  refine wpAnyH_ready (rs := [4, 7]) (by kernel_rfl) (by simp) ?_
  refine AllReadyH.cons rfl (fun K hK => ?_) (AllReadyH.cons rfl (fun K hK => ?_) AllReadyH.nil)
  · have c1 := HXwf.out.cell (i := 1) rfl
    go_simp
    clear c1
    refine hK.out _ _ (HBwf.out.range) (fun hHeld2 => ?_)
    clear hK K hHeld
    have hHeld := hHeld2
    clear hHeld2
    (try simp only [Act.put, Array.getInternal_eq_getElem, List.getElem_toArray, List.getElem_cons_succ, List.getElem_cons_zero, List.setIfInBounds_toArray, List.set_cons_zero, List.set_cons_succ])
    refine wpAnyH_ready (rs := [7]) (by kernel_rfl) (by simp) ?_
    refine AllReadyH.cons rfl (fun K hK => ?_) AllReadyH.nil
    go_simp
    obtain ⟨wg, hwg⟩ : ∃ wg, wg = wf.alloc (Obj.cells #[.int .i64 v.lba, .int .i64 v.epoch, .int .i64 v.slot] 154) := ⟨_, rfl⟩
    rw [← hwg]
    have hbg : Below wf.heap.size wf wg := by rw [hwg]; exact (Below.refl _ _).alloc (Nat.le_refl _) _
    have HROW := Lib.hid (show Blk wg wf.heap.size v.cells 154 from by rw [hwg]; exact Blk.new wf _ _)
    have HXwg := Lib.hid (HXwf.out.below hbg HXwf.out.lt)
    have HBwg := Lib.hid (HBwf.out.below hbg HBwf.out.lt)
    have HRwg := Lib.hid (own_below hbg HRwf.out)
    have HBEwg := Lib.hid (HBEwf.out.trans (hbg.mono HBEwf.out.size))
    clear hwg hbg
    (try go_wp2_with fail)
    refine hK.out _ _ (HBwg.out.range) (fun hHeld2 => ?_)
    clear hK K hHeld
    have hHeld := hHeld2
    clear hHeld2
    (try simp only [Act.put, Array.getInternal_eq_getElem, List.getElem_toArray, List.getElem_cons_succ, List.getElem_cons_zero, List.setIfInBounds_toArray, List.set_cons_zero, List.set_cons_succ])
    refine wpAnyH_ready (rs := [8]) (by kernel_rfl) (by simp) ?_
    refine AllReadyH.cons rfl (fun K hK => ?_) AllReadyH.nil
    go_simp
    refine (HIN.out _ _ HRwg.out HROW.out).mono ?_
    rintro e wh ⟨⟨xv', rfl, hown, hnear⟩, hgr⟩
    have HXwh := Lib.hid (HXwg.out.grown hgr HNX.out)
    have HBwh := Lib.hid (HBwg.out.grown hgr HNB.out)
    obtain ⟨p', c', hsh⟩ := own_shape hown
    subst hsh
    have HOWN := Lib.hid hown
    have HNEAR := Lib.hid hnear
    have HGR := Lib.hid hgr
    clear hown hnear hgr
    (try go_wp2_with fail)
    refine hK.out _ _ (HBwh.out.range) (fun hHeld2 => ?_)
    clear hK K hHeld
    have hHeld := hHeld2
    clear hHeld2
    (try simp only [Act.put, Array.getInternal_eq_getElem, List.getElem_toArray, List.getElem_cons_succ, List.getElem_cons_zero, List.setIfInBounds_toArray, List.set_cons_zero, List.set_cons_succ])
    refine wpAnyH_take (i := 9) (v := ?_) rfl (by kernel_rfl) (by kernel_rfl) (by kernel_rfl) (fun _ _ _ h => h) (Or.inl ⟨by rfl, ?_⟩) (by assumption) ?_
    rotate_left
    · intro w hSw; (try dsimp only at hSw); go_simp; first | done | with_reducible rfl
    (try simp only [Act.put, Array.getInternal_eq_getElem, List.getElem_toArray, List.getElem_cons_succ, List.getElem_cons_zero, List.setIfInBounds_toArray, List.set_cons_zero, List.set_cons_succ])
    refine wpAnyH_take (i := 10) (v := ?_) rfl (by kernel_rfl) (by kernel_rfl) (by kernel_rfl) (fun _ _ _ h => h) (Or.inl ⟨by rfl, ?_⟩) (by assumption) ?_
    rotate_left
    · intro w hSw; (try dsimp only at hSw); go_simp; first | done | with_reducible rfl
    (try simp only [Act.put, Array.getInternal_eq_getElem, List.getElem_toArray, List.getElem_cons_succ, List.getElem_cons_zero, List.setIfInBounds_toArray, List.set_cons_zero, List.set_cons_succ])
    have c9 := HXwh.out.cell (i := 1) rfl
    have f9 := HXwh.out.free 1
    refine wpAnyH_ready (rs := [11]) (by kernel_rfl) (by simp) ?_
    refine AllReadyH.cons rfl (fun K hK => ?_) AllReadyH.nil
    go_simp
    have HBwi := Lib.hid (HBwh.out.set_other (a := ⟨xb, 1, none⟩) (by have h1 := HBwh.out; have h2 := HXwh.out; intro e; subst e; unfold Blk at h1 h2; rw [h1] at h2; injection h2 with h2; injection h2 with _ h2; exact absurd h2 (by decide)) (.slice p' (n + 1) c'))
    refine hK.out _ _ HBwi.out.range (fun hHeld2 => ?_)
    clear hK K hHeld hHeld2
    (try simp only [Act.put, Array.getInternal_eq_getElem, List.getElem_toArray, List.getElem_cons_succ, List.getElem_cons_zero, List.setIfInBounds_toArray, List.set_cons_zero, List.set_cons_succ])
    refine wpAnyH_done (by kernel_rfl) ?_ _
    clear c9 f9
    go_wp2_with fail
    go_ret
    have hsz := HBEwg.out.size
    refine ⟨⟨rfl, .slice p' (n + 1) c', (HXwh.out.set 1 _).ext rfl, own_turned HOWN.out ((Turned.refl [xb] _).setCell (.inl (by simp)) 1 _) (fun k hk => ?_), fun k hk => ?_⟩, ?_⟩
    · intro hm
      simp at hm
      subst hm
      obtain ⟨cs, fz, h1⟩ := own_is HOWN.out hk
      have h2 := HXwh.out
      unfold Blk at h2
      rw [h1] at h2
      injection h2 with h2
      injection h2 with _ h2
      exact absurd h2 (by decide)
    · rcases HNEAR.out with h1 | h1
      · exact .inl (h1 ▸ hk)
      · exact .inr (Nat.le_trans hsz (h1 k hk))
    · have t1 : Turned (xb :: (Value.slice p n c).ownBlock.toList) w wg := Turned.of_below HBEwg.out (Nat.le_refl _)
      have t2 : Turned (xb :: (Value.slice p n c).ownBlock.toList) wg wh := Turned.of_grown HGR.out (fun k hk => by rw [hk]; simp)
      exact (t1.trans t2).trans ((Turned.refl _ _).setCell (.inl (by simp)) 1 _)
  · go_simp
    obtain ⟨wg, hwg⟩ : ∃ wg, wg = wf.alloc (Obj.cells #[.int .i64 v.lba, .int .i64 v.epoch, .int .i64 v.slot] 154) := ⟨_, rfl⟩
    rw [← hwg]
    have hbg : Below wf.heap.size wf wg := by rw [hwg]; exact (Below.refl _ _).alloc (Nat.le_refl _) _
    have HROW := Lib.hid (show Blk wg wf.heap.size v.cells 154 from by rw [hwg]; exact Blk.new wf _ _)
    have HXwg := Lib.hid (HXwf.out.below hbg HXwf.out.lt)
    have HBwg := Lib.hid (HBwf.out.below hbg HBwf.out.lt)
    have HRwg := Lib.hid (own_below hbg HRwf.out)
    have HBEwg := Lib.hid (HBEwf.out.trans (hbg.mono HBEwf.out.size))
    clear hwg hbg
    (try go_wp2_with fail)
    refine hK.out _ _ (HBwg.out.range) (fun hHeld2 => ?_)
    clear hK K hHeld
    have hHeld := hHeld2
    clear hHeld2
    (try simp only [Act.put, Array.getInternal_eq_getElem, List.getElem_toArray, List.getElem_cons_succ, List.getElem_cons_zero, List.setIfInBounds_toArray, List.set_cons_zero, List.set_cons_succ])
    refine wpAnyH_ready (rs := [4]) (by kernel_rfl) (by simp) ?_
    refine AllReadyH.cons rfl (fun K hK => ?_) AllReadyH.nil
    have c1 := HXwg.out.cell (i := 1) rfl
    go_simp
    clear c1
    refine hK.out _ _ (HBwg.out.range) (fun hHeld2 => ?_)
    clear hK K hHeld
    have hHeld := hHeld2
    clear hHeld2
    (try simp only [Act.put, Array.getInternal_eq_getElem, List.getElem_toArray, List.getElem_cons_succ, List.getElem_cons_zero, List.setIfInBounds_toArray, List.set_cons_zero, List.set_cons_succ])
    refine wpAnyH_ready (rs := [8]) (by kernel_rfl) (by simp) ?_
    refine AllReadyH.cons rfl (fun K hK => ?_) AllReadyH.nil
    go_simp
    refine (HIN.out _ _ HRwg.out HROW.out).mono ?_
    rintro e wh ⟨⟨xv', rfl, hown, hnear⟩, hgr⟩
    have HXwh := Lib.hid (HXwg.out.grown hgr HNX.out)
    have HBwh := Lib.hid (HBwg.out.grown hgr HNB.out)
    obtain ⟨p', c', hsh⟩ := own_shape hown
    subst hsh
    have HOWN := Lib.hid hown
    have HNEAR := Lib.hid hnear
    have HGR := Lib.hid hgr
    clear hown hnear hgr
    (try go_wp2_with fail)
    refine hK.out _ _ (HBwh.out.range) (fun hHeld2 => ?_)
    clear hK K hHeld
    have hHeld := hHeld2
    clear hHeld2
    (try simp only [Act.put, Array.getInternal_eq_getElem, List.getElem_toArray, List.getElem_cons_succ, List.getElem_cons_zero, List.setIfInBounds_toArray, List.set_cons_zero, List.set_cons_succ])
    refine wpAnyH_take (i := 9) (v := ?_) rfl (by kernel_rfl) (by kernel_rfl) (by kernel_rfl) (fun _ _ _ h => h) (Or.inl ⟨by rfl, ?_⟩) (by assumption) ?_
    rotate_left
    · intro w hSw; (try dsimp only at hSw); go_simp; first | done | with_reducible rfl
    (try simp only [Act.put, Array.getInternal_eq_getElem, List.getElem_toArray, List.getElem_cons_succ, List.getElem_cons_zero, List.setIfInBounds_toArray, List.set_cons_zero, List.set_cons_succ])
    refine wpAnyH_take (i := 10) (v := ?_) rfl (by kernel_rfl) (by kernel_rfl) (by kernel_rfl) (fun _ _ _ h => h) (Or.inl ⟨by rfl, ?_⟩) (by assumption) ?_
    rotate_left
    · intro w hSw; (try dsimp only at hSw); go_simp; first | done | with_reducible rfl
    (try simp only [Act.put, Array.getInternal_eq_getElem, List.getElem_toArray, List.getElem_cons_succ, List.getElem_cons_zero, List.setIfInBounds_toArray, List.set_cons_zero, List.set_cons_succ])
    have c9 := HXwh.out.cell (i := 1) rfl
    have f9 := HXwh.out.free 1
    refine wpAnyH_ready (rs := [11]) (by kernel_rfl) (by simp) ?_
    refine AllReadyH.cons rfl (fun K hK => ?_) AllReadyH.nil
    go_simp
    have HBwi := Lib.hid (HBwh.out.set_other (a := ⟨xb, 1, none⟩) (by have h1 := HBwh.out; have h2 := HXwh.out; intro e; subst e; unfold Blk at h1 h2; rw [h1] at h2; injection h2 with h2; injection h2 with _ h2; exact absurd h2 (by decide)) (.slice p' (n + 1) c'))
    refine hK.out _ _ HBwi.out.range (fun hHeld2 => ?_)
    clear hK K hHeld hHeld2
    (try simp only [Act.put, Array.getInternal_eq_getElem, List.getElem_toArray, List.getElem_cons_succ, List.getElem_cons_zero, List.setIfInBounds_toArray, List.set_cons_zero, List.set_cons_succ])
    refine wpAnyH_done (by kernel_rfl) ?_ _
    clear c9 f9
    go_wp2_with fail
    go_ret
    have hsz := HBEwg.out.size
    refine ⟨⟨rfl, .slice p' (n + 1) c', (HXwh.out.set 1 _).ext rfl, own_turned HOWN.out ((Turned.refl [xb] _).setCell (.inl (by simp)) 1 _) (fun k hk => ?_), fun k hk => ?_⟩, ?_⟩
    · intro hm
      simp at hm
      subst hm
      obtain ⟨cs, fz, h1⟩ := own_is HOWN.out hk
      have h2 := HXwh.out
      unfold Blk at h2
      rw [h1] at h2
      injection h2 with h2
      injection h2 with _ h2
      exact absurd h2 (by decide)
    · rcases HNEAR.out with h1 | h1
      · exact .inl (h1 ▸ hk)
      · exact .inr (Nat.le_trans hsz (h1 k hk))
    · have t1 : Turned (xb :: (Value.slice p n c).ownBlock.toList) w wg := Turned.of_below HBEwg.out (Nat.le_refl _)
      have t2 : Turned (xb :: (Value.slice p n c).ownBlock.toList) wg wh := Turned.of_grown HGR.out (fun k hk => by rw [hk]; simp)
      exact (t1.trans t2).trans ((Turned.refl _ _).setCell (.inl (by simp)) 1 _)
end Go.Proofs.YtppdboadjefieaaGreat

namespace Go.Proofs.YtppdboadjefieaaGreat
open Go Go.RowKit
set_option maxRecDepth 100000

theorem vthere_walk (i : VolI) (v : VolD) (w : World) (h : VolAt w i v) :
    Calls Tryz.prog 55 #[.pointer (some ⟨i.vb, 0, none⟩)] w fun e w' => e = .returned (.bool true) ∧ w = w' :=
  vol_there i.vb i.jb i.bb v.key v.data (.pointer (some ⟨i.xb, 0, none⟩)) i.sv (.pointer (some ⟨i.cb, 0, none⟩)) i.rv w h.vol
set_option maxHeartbeats 1000000 in
theorem vsuper_walk (i : VolI) (v : VolD) (w : World) (h : VolAt w i v) :
    Calls Tryz.prog 87 #[.pointer (some ⟨i.vb, 0, none⟩)] w fun e w' => e = .returned v.last.v ∧ Below w.heap.size w w' := by
  have H0 := Lib.hid h
  obtain ⟨⟨gen, tail, epoch, clock, ⟨blocks, lbas, first⟩⟩, hl⟩ : ∃ s, v.last = s := ⟨_, rfl⟩
  have HL := Lib.hid hl
  rw [hl]
  clear h hl
  go_enter Tryz.func87, Tryz.ntmps87
  go_wp2_with (first
    | ((with_reducible refine wpList_alloc_new 135 _ zeroSup (some 2) ?hgd ?ho ?hd ?_); (case hgd | ho | hd => rfl); (intro b2 w1 l1 B1 e1 z1))
    | fail)
  have HB1 := Lib.hid B1
  have HL1 := Lib.hid l1
  have HBE1 := Lib.hid (e1.mono l1)
  have H1 := Lib.hid (H0.out.below HBE1.out)
  clear B1 e1 z1 l1
  refine (vthere_walk i v _ H1.out).mono ?_
  rintro e w' ⟨rfl, rfl⟩
  have c0 : w1.cell? ⟨i.vb, 0, none⟩ = some (.pointer (some ⟨i.jb, 0, none⟩)) := H1.out.vol.cell (i := 0) rfl
  go_wp2_with fail
  refine (jsuper_walk i.jb i.db (.pointer (some ⟨i.sb, 0, none⟩)) gen tail epoch clock blocks lbas first _ (by rw [← HL.out]; exact H1.out.jour)).mono ?_
  rintro e w2 ⟨rfl, hb2⟩
  have HB2 := Lib.hid (HB1.out.below hb2 HB1.out.lt)
  have HBE2 := Lib.hid (HBE1.out.trans (hb2.mono HBE1.out.size))
  clear hb2 c0
  go_wp2_with (first
    | ((with_reducible refine wpList_store_new 135 (.tmp 2) (.tmp 11) b2 SupD.zero.cells (SupD.cells ⟨gen, tail, epoch, clock, ⟨blocks, lbas, first⟩⟩) 135 HB2.out rfl sizeSup (sup_one _) ?hgd ?ho ?hx ?hy ?_); (case hgd | ho | hx | hy => rfl); (intro w9 B9 o9))
    | fail)
  (try simp only [Exit.inBlock, Exit.then]); refine bodyPost_ret (results_cell1v rfl _ _ B9.range rfl Tryz.underlying135 rfl sizeSup) rfl ⟨rfl, o9.below HBE2.out HL1.out⟩
set_option maxHeartbeats 1000000 in
theorem vgeo_walk (i : VolI) (v : VolD) (w : World) (h : VolAt w i v) :
    Calls Tryz.prog 28 #[.pointer (some ⟨i.vb, 0, none⟩)] w fun e w' => e = .returned v.last.geo.v ∧ Below w.heap.size w w' := by
  have hfa : ∀ (a b c d e f g : Int) (w : World), Sem.run Tryz.prog (Instr.field 135 (.agg #[.int .i64 a, .int .i64 b, .int .i64 c, .int .i64 d, .int .i64 e, .int .i64 f, .int .i64 g]) 4) w = .ok (.agg #[.int .i64 e, .int .i64 f, .int .i64 g]) w := fun _ _ _ _ _ _ _ _ => by kernel_rfl
  have H0 := Lib.hid h
  have HSU := Lib.hid (fun (wx : World) (hx : VolAt wx i v) => vsuper_walk i v wx hx)
  obtain ⟨⟨gen, tail, epoch, clock, ⟨blocks, lbas, first⟩⟩, hl⟩ : ∃ s, v.last = s := ⟨_, rfl⟩
  rw [hl]
  have HSV := Lib.hid (fun (wx : World) (hx : VolAt wx i v) => show Calls Tryz.prog 87 #[.pointer (some ⟨i.vb, 0, none⟩)] wx fun e w' => e = .returned (.agg #[.int .i64 gen, .int .i64 tail, .int .i64 epoch, .int .i64 clock, .int .i64 blocks, .int .i64 lbas, .int .i64 first]) ∧ Below wx.heap.size wx w' from by have := HSU.out wx hx; rw [hl] at this; exact this)
  clear h hl HSU
  go_enter Tryz.func28, Tryz.ntmps28
  go_wp2_with (first
    | ((with_reducible refine wpList_alloc_new 23 _ zeroGeo (some 2) ?hgd ?ho ?hd ?_); (case hgd | ho | hd => rfl); (intro b2 w1 l1 B1 e1 z1))
    | fail)
  have HB1 := Lib.hid B1
  have HL1 := Lib.hid l1
  have HBE1 := Lib.hid (e1.mono l1)
  have H1 := Lib.hid (H0.out.below HBE1.out)
  clear B1 e1 z1 l1
  refine (vthere_walk i v _ H1.out).mono ?_
  rintro e w' ⟨rfl, rfl⟩
  go_wp2_with fail
  refine (HSV.out _ H1.out).mono ?_
  rintro e w2 ⟨rfl, hb2⟩
  have HB2 := Lib.hid (HB1.out.below hb2 HB1.out.lt)
  have HBE2 := Lib.hid (HBE1.out.trans (hb2.mono HBE1.out.size))
  clear hb2
  go_wp2_with (first
    | ((with_reducible refine wpList_store_new 23 (.tmp 2) (.tmp 9) b2 GeoD.zero.cells (GeoD.cells ⟨blocks, lbas, first⟩) 23 HB2.out rfl sizeGeo (geo_one _) ?hgd ?ho ?hx ?hy ?_); (case hgd | ho | hx | hy => rfl); (intro w9 B9 o9))
    | fail)
  (try simp only [Exit.inBlock, Exit.then]); refine bodyPost_ret (results_cell1v rfl _ _ B9.range rfl Tryz.underlying23 rfl sizeGeo) rfl ⟨rfl, o9.below HBE2.out HL1.out⟩
set_option maxHeartbeats 1000000 in
theorem vplace_walk (i : VolI) (v : VolD) (lba : Int) (w : World) (h : VolAt w i v) (h0 : 0 ≤ lba) (h1 : lba < v.last.geo.lbas) :
    Calls Tryz.prog 67 #[.pointer (some ⟨i.vb, 0, none⟩), .int .i64 lba] w fun e w' => e = .returned (.int .i64 0) ∧ Below w.heap.size w w' := by
  have hfa : ∀ (a b c : Int) (w : World), Sem.run Tryz.prog (Instr.field 23 (.agg #[.int .i64 a, .int .i64 b, .int .i64 c]) 1) w = .ok (.int .i64 b) w := fun _ _ _ _ => by kernel_rfl
  have HGE := Lib.hid (fun (wx : World) (hx : VolAt wx i v) => vgeo_walk i v wx hx)
  obtain ⟨⟨blocks, lbas, first⟩, hl⟩ : ∃ s, v.last.geo = s := ⟨_, rfl⟩
  rw [hl] at h1
  have HGV := Lib.hid (fun (wx : World) (hx : VolAt wx i v) => show Calls Tryz.prog 28 #[.pointer (some ⟨i.vb, 0, none⟩)] wx fun e w' => e = .returned (.agg #[.int .i64 blocks, .int .i64 lbas, .int .i64 first]) ∧ Below wx.heap.size wx w' from by have := HGE.out wx hx; rw [hl] at this; exact this)
  simp only at h1
  clear hl HGE
  go_enter Tryz.func67, Tryz.ntmps67
  go_wp2_with fail
  refine (vthere_walk i v _ h).mono ?_
  rintro e w' ⟨rfl, rfl⟩
  go_wp2_with fail
  refine (HGV.out _ h).mono ?_
  rintro e w2 ⟨rfl, hb2⟩
  have HB2 := Lib.hid hb2
  clear hb2
  go_wp2_with fail
  go_ret
  exact ⟨rfl, HB2.out⟩
def wroteV (v : VolD) (lba : Int) (block : ByteArray) (cv : Value) : VolD := { v with used := v.used + 1, d := { v.d with cv := cv, cs := v.d.cs ++ [(4 + v.used, block)] }, vers := v.vers ++ [⟨lba, v.epoch, v.used⟩] }
set_option maxHeartbeats 4000000 in
theorem write_walk (i : VolI) (v : VolD) (lba : Int) (s : ByteArray) (w : World) (h : VolAt w i v) (ok : VolOk v) (hu : v.used < v.last.geo.blocks - 5) (l0 : 0 ≤ lba) (l1 : lba < v.last.geo.lbas) (hs : s.size ≤ 4000) (hd : v.data.size = 16) (e0 : 0 ≤ v.epoch) (e1 : v.epoch ≤ 4294967295) (hvn : v.vers.length ≤ 1048575)
    (hlt : ∀ (t : Nat) (x : VersD), v.vers[t]? = some x → cmpV x ⟨lba, v.epoch, v.used⟩ < 0) :
    Calls Tryz.prog 52 #[.pointer (some ⟨i.vb, 0, none⟩), .int .i64 lba, .string s] w fun e w' => e = .returned (.int .i64 0) ∧ ∃ (cv xv : Value) (cph block : ByteArray), Txt cph (xorL s.data.toList (streamL v.data.data.toList v.epoch.toNat v.used.toNat s.size)) ∧ Txt block (cellL ⟨v.epoch, v.used, lba, false, cph⟩) ∧ CellOk ⟨v.epoch, v.used, lba, false, cph⟩ ∧ VolTo w w' i v { i with xv := xv } (wroteV v lba block cv) := by
  have hsi : (s.size : Int) ≤ 4000 := by omega
  obtain ⟨en, hen⟩ : ∃ en : Nat, v.epoch = (en : Int) := ⟨v.epoch.toNat, by omega⟩
  obtain ⟨un, hun⟩ : ∃ un : Nat, v.used = (un : Int) := ⟨v.used.toNat, by have := ok.u0; omega⟩
  have hr : roomI v.last.geo v.used ≠ 0 := by unfold roomI; omega
  have hrb : (roomI v.last.geo v.used == 0) = false := beq_eq_false_iff_ne.2 hr
  obtain ⟨rm, hrm⟩ : ∃ rm, roomI v.last.geo v.used = rm := ⟨_, rfl⟩
  rw [hrm] at hrb
  have HRM := Lib.hid (fun (wx : World) (hx : VolAt wx i v) => show Calls Tryz.prog 73 #[.pointer (some ⟨i.jb, 0, none⟩)] wx fun e w' => e = .returned (.int .i64 rm) ∧ Below wx.heap.size wx w' from by have := jroom_walk i v wx hx ok; rw [hrm] at this; exact this)
  have HUS := Lib.hid (fun (wx : World) (hx : VolAt wx i v) => show Calls Tryz.prog 120 #[.pointer (some ⟨i.jb, 0, none⟩)] wx fun e w' => e = .returned (.int .i64 (un : Int)) ∧ wx = w' from by have := jused_walk i v wx hx ok; rw [hun] at this; exact this)
  have HEN := Lib.hid hen
  have HUN := Lib.hid hun
  have HLB := Lib.hid (And.intro l0 l1)
  have HOK := Lib.hid ok
  have HUU := Lib.hid hu
  have HD := Lib.hid hd
  have HE := Lib.hid (And.intro e0 e1)
  have HS := Lib.hid hs
  have HLT := Lib.hid hlt
  have HVN := Lib.hid hvn
  have H0 := Lib.hid h
  clear hr hrm hen hun ok hu l0 l1 hd e0 e1 hs hlt hvn h
  go_enter Tryz.func52, Tryz.ntmps52
  go_wp2_with fail
  refine (vplace_walk i v lba _ H0.out HLB.out.1 HLB.out.2).mono ?_
  rintro e w1 ⟨rfl, hb1⟩
  have HBE1 := Lib.hid hb1
  have H1 := Lib.hid (H0.out.below hb1)
  clear hb1
  have c0 : w1.cell? ⟨i.vb, 0, none⟩ = some (.pointer (some ⟨i.jb, 0, none⟩)) := H1.out.vol.cell (i := 0) rfl
  go_wp2_with fail
  refine (HRM.out _ H1.out).mono ?_
  rintro e w2 ⟨rfl, hb2⟩
  have HBE2 := Lib.hid (HBE1.out.trans (hb2.mono HBE1.out.size))
  have H2 := Lib.hid (H1.out.below hb2)
  clear hb2 c0
  go_upto_region 8 with fail
  have c5 : w2.drew.cell? ⟨i.vb, 5, none⟩ = some (.pointer (some ⟨i.bb, 0, none⟩)) := H2.out.vol.drew.cell (i := 5) rfl
  have c0 : w2.drew.cell? ⟨i.vb, 0, none⟩ = some (.pointer (some ⟨i.jb, 0, none⟩)) := H2.out.vol.drew.cell (i := 0) rfl
  have H3 := Lib.hid (H2.out.below (Below.refl _ _).drew)
  refine wp_region_still_drew (by kernel_rfl) (by kernel_rfl) ?_
  iterate 4 still_step
  still_call (still_of (bookEpoch_walk i.bb i.c2 v.first (en : Int) i.m1 i.m2 i.m3 _ (by rw [← HEN.out]; exact H3.out.book)))
  iterate 4 still_step
  still_call (still_of (HUS.out _ H3.out))
  iterate 2 still_step
  refine wpStill_nil ?_
  have HBE3 := Lib.hid HBE2.out.drew
  have c2 : w2.drew.cell? ⟨i.vb, 2, none⟩ = some (.string v.data) := H2.out.vol.drew.cell (i := 2) rfl
  clear c5 c0
  go_wp2_with fail
  refine (ctrXor_walk v.data s en un _ HD.out (by have := HEN.out; have := HE.out; omega) (by have := HUN.out; have := HUU.out; have := HOK.out.sup.geo.b1; omega) (by have := HS.out; omega)).mono ?_
  rintro e w4 ⟨⟨cph, rfl, tc⟩, hb4⟩
  have HTC := Lib.hid tc
  have HCO := Lib.hid (show CellOk ⟨(en : Int), (un : Int), lba, false, cph⟩ from ⟨by show (0:Int) ≤ en; omega, by show (en : Int) ≤ 4294967295; have := HEN.out; have := HE.out; omega, by show (0:Int) ≤ un; omega, by show (un : Int) ≤ 4294967295; have := HUN.out; have := HUU.out; have := HOK.out.sup.geo.b1; omega, HLB.out.1, by show lba ≤ 4095; have := HLB.out.2; have := HOK.out.sup.geo.l1; omega, by show cph.size ≤ 4000; rw [tc.size, xorL_length]; exact HS.out, fun hg => by cases hg⟩)
  have HBE4 := Lib.hid (HBE3.out.trans (hb4.mono HBE3.out.size))
  have H4 := Lib.hid (H3.out.below hb4)
  clear hb4 c2 tc
  go_wp2_with (first
    | ((with_reducible refine wpList_build_eq 158 ?parts59 (CellD.cells ⟨(en : Int), (un : Int), lba, false, cph⟩) ?hg ?ho ?hf ?_); (case hg | ho => rfl); (case hf => exact builtCellW _ _ _ _))
    | fail)
  refine (cellPut1_walk ⟨(en : Int), (un : Int), lba, false, cph⟩ _ HCO.out rfl).mono ?_
  rintro e w5 ⟨⟨block, rfl, tb⟩, hb5⟩
  have HTB := Lib.hid tb
  have HBE5 := Lib.hid (HBE4.out.trans (hb5.mono HBE4.out.size))
  have H5 := Lib.hid (H4.out.below hb5)
  clear hb5 tb
  have c0 : w5.cell? ⟨i.vb, 0, none⟩ = some (.pointer (some ⟨i.jb, 0, none⟩)) := H5.out.vol.cell (i := 0) rfl
  go_wp2_with fail
  refine (jappend_walk i v block _ H5.out HOK.out (by rw [HTB.out.size, cellL_length _ HCO.out.n]) HUU.out).mono ?_
  rintro e w6 ⟨rfl, cv, hto⟩
  have HTO := Lib.hid (VolTo.ahead HBE5.out hto)
  have c3 : w6.cell? ⟨i.vb, 3, none⟩ = some (.pointer (some ⟨i.xb, 0, none⟩)) := HTO.out.at'.vol.cell (i := 3) rfl
  clear hto c0
  go_wp2_with (first
    | ((with_reducible refine wpList_build_eq 154 ?parts82 (VersD.cells ⟨lba, (en : Int), (un : Int)⟩) ?hg ?ho ?hf ?_); (case hg | ho => rfl); (case hf => exact builtVersW _ _ _))
    | fail)
  refine (add_walk i.xb v.vers.length i.xv v.vers ⟨lba, (en : Int), (un : Int)⟩ _ HTO.out.at'.index HTO.out.at'.vers rfl HVN.out ⟨HLB.out.1, by show lba ≤ 4095; have := HLB.out.2; have := HOK.out.sup.geo.l1; omega, HCO.out.e0, HCO.out.e1, HCO.out.s0, HCO.out.s1⟩ (fun t x hx => by have := HLT.out t x hx; rw [HEN.out, HUN.out] at this; exact this)).mono ?_
  rintro e w7 ⟨⟨rfl, xv, hX, hR, hN⟩, ht7⟩
  have HT7 := Lib.hid (HTO.out.trans (HTO.out.at'.idx (xv := xv) (l := v.vers ++ [⟨lba, (en : Int), (un : Int)⟩]) ht7 hX (by rw [List.length_append]; exact hR) hN))
  clear hX hR hN ht7 c3
  go_wp2_with fail
  go_ret
  refine ⟨rfl, cv, xv, cph, block, ?_, ?_, ?_, ?_⟩
  · rw [HEN.out, HUN.out]; exact HTC.out
  · rw [HEN.out, HUN.out]; exact HTB.out
  · rw [HEN.out, HUN.out]; exact HCO.out
  · have := HT7.out
    unfold wroteV
    rw [← HUN.out, ← HEN.out] at this
    exact this
end Go.Proofs.YtppdboadjefieaaGreat

