/- Versions (chapter 14): how two stand, whether one may be. Versions (chapter 14): where one stands, at rows of the call's own. -/
import Derived.Test.YtppdboadjefieaaGreatQ14
import Derived.Test.YtppdboadjefieaaGreatQ8
import Derived.StillTailTactics
import Derived.OrdersHeld
set_option linter.unusedSimpArgs false
set_option linter.unusedVariables false
namespace Go.Proofs.YtppdboadjefieaaGreat
open Go Go.RowKit
set_option maxRecDepth 100000

theorem sizeVers {v : VersD} : (Tryz.prog.info? 154).map (·.size) = some v.cells.length := by kernel_rfl
theorem compare_walk (a b : Int) (w : World) :
    Calls Tryz.prog 250 #[.int .i64 a, .int .i64 b] w fun e w' => e = .returned (.int .i64 (cmpI a b)) ∧ w = w' := by
  have hnan : ∀ (x : Int) (w : World), Calls Tryz.prog 327 #[.int .i64 x] w fun e w' => e = .returned (.bool false) ∧ w = w' := by
    intro x w
    go_enter Tryz.func327, Tryz.ntmps327
    go_wp2_with fail
    go_ret
    first | exact ⟨rfl, rfl⟩ | exact ⟨ret_b (by simp), rfl⟩
  by_cases h1 : a < b
  · have hc : cmpI a b = -1 := by unfold cmpI; rw [if_pos h1]
    rw [hc]
    have HN := Lib.hid hnan
    clear hnan hc
    go_enter Tryz.func250, Tryz.ntmps250
    go_wp2_with fail
    refine (HN.out a _).mono ?_
    rintro e w' ⟨rfl, rfl⟩
    go_wp2_with fail
    refine (HN.out b _).mono ?_
    rintro e w' ⟨rfl, rfl⟩
    go_wp2_with fail
    go_ret
    exact ⟨rfl, rfl⟩
  · by_cases h2 : b < a
    · have hc : cmpI a b = 1 := by unfold cmpI; rw [if_neg h1, if_pos h2]
      rw [hc]
      have HN := Lib.hid hnan
      clear hnan hc
      go_enter Tryz.func250, Tryz.ntmps250
      go_wp2_with fail
      refine (HN.out a _).mono ?_
      rintro e w' ⟨rfl, rfl⟩
      go_wp2_with fail
      refine (HN.out b _).mono ?_
      rintro e w' ⟨rfl, rfl⟩
      go_wp2_with fail
      go_ret
      exact ⟨rfl, rfl⟩
    · have hc : cmpI a b = 0 := by unfold cmpI; rw [if_neg h1, if_neg h2]
      rw [hc]
      have HN := Lib.hid hnan
      clear hnan hc
      go_enter Tryz.func250, Tryz.ntmps250
      go_wp2_with fail
      refine (HN.out a _).mono ?_
      rintro e w' ⟨rfl, rfl⟩
      go_wp2_with fail
      refine (HN.out b _).mono ?_
      rintro e w' ⟨rfl, rfl⟩
      go_wp2_with fail
      go_ret
      exact ⟨rfl, rfl⟩
def or3 (x y z : Int) : Int := if x ≠ 0 then x else if y ≠ 0 then y else z
def orAt (x y z : Int) (k : Nat) : Prop := (k = 0 ∧ True) ∨ (k = 1 ∧ x = 0) ∨ (k = 2 ∧ x = 0 ∧ y = 0) ∨ (k = 3 ∧ x = 0 ∧ y = 0 ∧ z = 0)
theorem or_walk (g c : Nat) (x y z : Int) (t : TypeId) (w : World) (h : Blk w g [.int .i64 x, .int .i64 y, .int .i64 z] t) :
    Calls Tryz.prog 307 #[.slice (some ⟨g, 0, none⟩) 3 c] w fun e w' => e = .returned (.int .i64 (or3 x y z)) ∧ w = w' := by
  have c0 := h.cell (i := 0) rfl
  have c1 := h.cell (i := 1) rfl
  have c2 := h.cell (i := 2) rfl
  obtain ⟨r, hr⟩ : ∃ r, or3 x y z = r := ⟨_, rfl⟩
  have HR := Lib.hid hr
  rw [hr]
  clear h hr
  go_enter Tryz.func307, Tryz.ntmps307
  go_wp2_with fail
  go_loopw [8] (fun i wr => ∃ k : Nat, k ≤ 3 ∧ i = .int .i64 k ∧ wr = w ∧ Hid (orAt x y z k)) (fun i _ => 3 - (intOf i).toNat)
  case atStart => exact ⟨0, by omega, rfl, rfl, .inl ⟨rfl, trivial⟩⟩
  case round =>
    obtain ⟨k, hk, rfl, rfl, hz⟩ := hrel
    match k, hk with
    | 0, hk =>
      by_cases hx : x = 0
      · go_wp2_with fail
        go_roundw
        case rel => exact ⟨1, by omega, rfl, (by first | rfl | trivial), .inr (.inl ⟨rfl, hx⟩)⟩
        case measure => simp [intOf]
      · go_wp2_with fail
        go_ret
        have hrx : r = x := by rw [← HR.out]; unfold or3; rw [if_pos hx]
        exact ⟨by rw [hrx]; rfl, rfl⟩
    | 1, hk =>
      obtain h1 | h1 | h1 | h1 := hz.out
      · omega
      · by_cases hy : y = 0
        · go_wp2_with fail
          go_roundw
          case rel => exact ⟨2, by omega, rfl, (by first | rfl | trivial), .inr (.inr (.inl ⟨rfl, h1.2, hy⟩))⟩
          case measure => simp [intOf]
        · go_wp2_with fail
          go_ret
          have hrx : r = y := by rw [← HR.out]; unfold or3; rw [if_neg (by simp [h1.2]), if_pos hy]
          exact ⟨by rw [hrx]; rfl, rfl⟩
      · omega
      · omega
    | 2, hk =>
      obtain h1 | h1 | h1 | h1 := hz.out
      · omega
      · omega
      · by_cases hy : z = 0
        · go_wp2_with fail
          go_roundw
          case rel => exact ⟨3, by omega, rfl, (by first | rfl | trivial), .inr (.inr (.inr ⟨rfl, h1.2.1, h1.2.2, hy⟩))⟩
          case measure => simp [intOf]
        · go_wp2_with fail
          go_ret
          have hrx : r = z := by rw [← HR.out]; unfold or3; rw [if_neg (by simp [h1.2.1]), if_neg (by simp [h1.2.2])]
          exact ⟨by rw [hrx]; rfl, rfl⟩
      · omega
    | 3, hk =>
      obtain h1 | h1 | h1 | h1 := hz.out
      · omega
      · omega
      · omega
      · go_wp2_with fail
        go_ret
        have hrx : r = 0 := by rw [← HR.out]; unfold or3; rw [if_neg (by simp [h1.2.1]), if_neg (by simp [h1.2.2.1]), h1.2.2.2]
        exact ⟨by rw [hrx]; rfl, rfl⟩
set_option maxHeartbeats 1000000 in
theorem order_walk (a b : VersD) (w : World) :
    Calls Tryz.prog 222 #[.agg a.cells.toArray, .agg b.cells.toArray] w fun e w' => e = .returned (.int .i64 (cmpV a b)) ∧ Below w.heap.size w w' := by
  go_enter Tryz.func222, Tryz.ntmps222
  go_wp2_with (first
    | ((with_reducible refine wpList_box_new 154 (.tmp 0) a.cells (some 2) ?hgd ?ho ?hd ?hx ?_); (case hgd | ho | hd | hx => rfl); (intro b1 w1 l1 B1 e1 z1))
    | ((with_reducible refine wpList_box_new 154 (.tmp 1) b.cells (some 3) ?hgd ?ho ?hd ?hx ?_); (case hgd | ho | hd | hx => rfl); (intro b2 w2 l2 B2 e2 z2))
    | fail)
  have B1' := B1.below e2 (Nat.lt_of_lt_of_le z1 l2)
  have p0 := B1'.cell (i := 0) rfl
  have p1 := B1'.cell (i := 1) rfl
  have p2 := B1'.cell (i := 2) rfl
  have q0 := B2.cell (i := 0) rfl
  have q1 := B2.cell (i := 1) rfl
  have q2 := B2.cell (i := 2) rfl
  have HBE := Lib.hid ((e1.mono l1).trans (e2.mono (Nat.le_trans l1 (Nat.le_trans (Nat.le_of_lt z1) l2))))
  clear B1 B1' B2 e1 e2 l1 l2 z1 z2
  refine wp_region_still_tail_drew 15 (by kernel_rfl) (by kernel_rfl) ?_
  simp only [List.take_succ_cons, List.take_zero, List.drop_succ_cons, List.drop_zero]
  iterate 4 still_step
  still_call (still_of (compare_walk a.lba b.lba _))
  iterate 4 still_step
  still_call (still_of (compare_walk a.epoch b.epoch _))
  iterate 4 still_step
  still_call (still_of (compare_walk a.slot b.slot _))
  refine wpStill_nil ?_
  go_wp2_with fail
  refine (or_walk _ 3 (cmpI a.lba b.lba) (cmpI a.epoch b.epoch) (cmpI a.slot b.slot) 3 _ (Blk.new w2 [.int .i64 (cmpI a.lba b.lba), .int .i64 (cmpI a.epoch b.epoch), .int .i64 (cmpI a.slot b.slot)] _).drew).mono ?_
  rintro e w' ⟨rfl, rfl⟩
  go_wp2_with fail
  go_ret
  exact ⟨rfl, (HBE.out.alloc HBE.out.size _).drew⟩
theorem vmay_walk (n m : Int) (w : World) (h0 : 0 ≤ n) (h1 : n ≤ m) :
    Calls Tryz.prog 306 #[.int .i64 n, .int .i64 m] w fun e w' => e = .returned (.bool true) ∧ w = w' := by
  go_enter Tryz.func306, Tryz.ntmps306
  go_wp2_with fail
  go_ret
  first | exact ⟨rfl, rfl⟩ | exact ⟨ret_b (by simp; omega), rfl⟩ | exact ⟨ret_b (by simp), rfl⟩
structure VersOk (v : VersD) : Prop where
  l0 : 0 ≤ v.lba
  l1 : v.lba ≤ 4095
  e0 : 0 ≤ v.epoch
  e1 : v.epoch ≤ 4294967295
  s0 : 0 ≤ v.slot
  s1 : v.slot ≤ 4294967295
set_option maxHeartbeats 1000000 in
theorem imay_walk (v : VersD) (w : World) (hv : VersOk v) :
    Calls Tryz.prog 220 #[.agg v.cells.toArray] w fun e w' => e = .returned (.bool true) ∧ Below w.heap.size w w' := by
  have HV := Lib.hid hv
  clear hv
  go_enter Tryz.func220, Tryz.ntmps220
  go_wp2_with (first
    | ((with_reducible refine wpList_box_new 154 (.tmp 0) v.cells (some 1) ?hgd ?ho ?hd ?hx ?_); (case hgd | ho | hd | hx => rfl); (intro b1 w1 l1 B1 e1 z1; have q0 := B1.cell (i := 0) rfl; have q1 := B1.cell (i := 1) rfl; have q2 := B1.cell (i := 2) rfl))
    | fail)
  refine (vmay_walk v.lba 4095 _ HV.out.l0 HV.out.l1).mono ?_
  rintro e w' ⟨rfl, rfl⟩
  go_wp2_with fail
  refine (vmay_walk v.epoch 4294967295 _ HV.out.e0 HV.out.e1).mono ?_
  rintro e w' ⟨rfl, rfl⟩
  go_wp2_with fail
  refine (vmay_walk v.slot 4294967295 _ HV.out.s0 HV.out.s1).mono ?_
  rintro e w' ⟨rfl, rfl⟩
  go_wp2_with fail
  go_ret
  exact ⟨rfl, e1.mono l1⟩
theorem ithere_walk (xb : Nat) (xv : Value) (w : World) (h : Blk w xb [.bool true, xv] 297) :
    Calls Tryz.prog 219 #[.pointer (some ⟨xb, 0, none⟩)] w fun e w' => e = .returned (.bool true) ∧ w = w' := by
  have c0 := h.cell (i := 0) rfl
  go_enter Tryz.func219, Tryz.ntmps219
  go_wp2_with fail
  go_ret
  exact ⟨rfl, rfl⟩
end Go.Proofs.YtppdboadjefieaaGreat

namespace Go.Proofs.YtppdboadjefieaaGreat
open Go Go.RowKit
set_option maxRecDepth 100000

theorem vers_at {w : World} {g : Nat} {l : List VersD} {z : List Value} {t : TypeId} (h : Blk w g (flatV l ++ z) t) {m : Nat} {x : VersD} (hx : l[m]? = some x) : w.rangeAt g (m * 3) x.cells := by
  have hl := (List.getElem?_eq_some_iff.1 hx).1
  have hf := flatV_at l m x hx
  have h3 := flatV_length l
  intro j u hu
  match j, hu with
  | 0, hu => simp [VersD.cells] at hu; subst hu; exact h.cell (by rw [List.getElem?_append_left (by omega)]; exact hf.1)
  | 1, hu => simp [VersD.cells] at hu; subst hu; exact h.cell (by rw [List.getElem?_append_left (by omega)]; exact hf.2.1)
  | 2, hu => simp [VersD.cells] at hu; subst hu; exact h.cell (by rw [List.getElem?_append_left (by omega)]; exact hf.2.2)
  | j + 3, hu => simp [VersD.cells] at hu
structure StandsAt (l : List VersD) (v : VersD) (i : Nat) : Prop where
  le : i ≤ l.length
  ahead : ∀ (t : Nat) (x : VersD), l[t]? = some x → t < i → cmpV x v < 0
  behind : ∀ (t : Nat) (x : VersD), l[t]? = some x → i ≤ t → 0 ≤ cmpV x v
set_option maxHeartbeats 4000000 in
theorem bsearchV_walk (g cap n : Nat) (l : List VersD) (z : List Value) (v : VersD) (w : World) (h : Blk w g (flatV l ++ z) 154) (hn : l.length = n) (hb : n ≤ 1048576)
    (hmono : ∀ (i j : Nat) (a b : VersD), l[i]? = some a → l[j]? = some b → i ≤ j → cmpV b v < 0 → cmpV a v < 0) (hne : ∀ (t : Nat) (x : VersD), l[t]? = some x → cmpV x v ≠ 0) :
    Calls Tryz.prog 221 #[.slice (some ⟨g, 0, none⟩) n cap, .agg v.cells.toArray, .func (.func 222) #[] #[]] w fun e w' => (∃ i : Nat, e = .returned (.tuple #[.int .i64 (i : Int), .bool false]) ∧ StandsAt l v i) ∧ Below w.heap.size w w' := by
  have HG0 := Lib.hid h
  have HN := Lib.hid hn
  have HM := Lib.hid hmono
  have HNE := Lib.hid hne
  clear h hn hmono hne
  go_enter Tryz.func221, Tryz.ntmps221
  go_wp2_with (first
    | ((with_reducible refine wpList_box_new 154 (.tmp 1) v.cells (some 4) ?hgd ?ho ?hd ?hx ?_); (case hgd | ho | hd | hx => rfl); (intro b1 w1 l1 B1 e1 z1))
    | fail)
  have HG1 := Lib.hid (HG0.out.below (e1.mono l1) HG0.out.lt)
  have HB1 := Lib.hid B1
  have HBE1 := Lib.hid (e1.mono l1)
  clear B1 e1 l1 z1
  go_loopw [9, 10] (fun s9 s10 wr => ∃ lo hi : Nat, s9 = .int .i64 lo ∧ s10 = .int .i64 hi ∧ lo ≤ hi ∧ hi ≤ n ∧ Hid ((∀ (t : Nat) (x : VersD), l[t]? = some x → t < lo → cmpV x v < 0) ∧ (∀ (t : Nat) (x : VersD), l[t]? = some x → hi ≤ t → 0 ≤ cmpV x v)) ∧ Hid (Blk wr g (flatV l ++ z) 154) ∧ Hid (Blk wr b1 v.cells 154) ∧ Hid (Below w.heap.size w wr)) (fun a b _ => (intOf b).toNat - (intOf a).toNat)
  case atStart => exact ⟨0, n, rfl, rfl, Nat.zero_le _, Nat.le_refl _, Lib.hid ⟨fun t x _ ht => absurd ht (Nat.not_lt_zero _), fun t x hx ht => by have := (List.getElem?_eq_some_iff.1 hx).1; have := HN.out; omega⟩, HG1, HB1, HBE1⟩
  case round =>
    obtain ⟨lo, hi, rfl, rfl, hlh, hin, HI, HG, HBX, HBE⟩ := hrel
    by_cases hlt : lo < hi
    · obtain ⟨m, hm⟩ : ∃ m : Nat, (lo + hi) / 2 = m := ⟨_, rfl⟩
      have hmi : ((lo : Int) + (hi : Int)) / 2 = (m : Int) := by omega
      have hm1 : lo ≤ m := by omega
      have hm2 : m < hi := by omega
      have hm3 : (m : Int) < (n : Int) := by omega
      have hm0 : (0 : Int) ≤ (m : Int) := by omega
      obtain ⟨x, hx⟩ : ∃ x, l[m]? = some x := ⟨_, List.getElem?_eq_getElem (by have := HN.out; omega)⟩
      clear hm
      go_wp2_with fail
      refine wp_region_held_drew (S := fun wx => wx.rangeAt g (m * 3) x.cells ∧ wx.rangeAt b1 0 v.cells) (by kernel_rfl) (⟨vers_at HG.out.drew hx, HBX.out.drew.range⟩) (fun hHeld => ?_)
      refine wpAnyH_take (i := 0) (v := ?_) rfl (by kernel_rfl) (by kernel_rfl) (by kernel_rfl) (fun _ _ _ h => h) (Or.inl ⟨by rfl, ?_⟩) (by assumption) ?_
      rotate_left
      · intro w hSw; (try dsimp only at hSw); go_simp; first | done | with_reducible rfl
      (try simp only [Act.put, Array.getInternal_eq_getElem, List.getElem_toArray, List.getElem_cons_succ, List.getElem_cons_zero, List.setIfInBounds_toArray, List.set_cons_zero, List.set_cons_succ])
      refine wpAnyH_take (i := 1) (v := ?_) rfl (by kernel_rfl) (by kernel_rfl) (by kernel_rfl) (fun _ _ _ h => h) (Or.inl ⟨by rfl, ?_⟩) (by assumption) ?_
      rotate_left
      · intro w hSw; (try dsimp only at hSw); go_simp; first | done | with_reducible rfl
      (try simp only [Act.put, Array.getInternal_eq_getElem, List.getElem_toArray, List.getElem_cons_succ, List.getElem_cons_zero, List.setIfInBounds_toArray, List.set_cons_zero, List.set_cons_succ])
      refine wpAnyH_take (i := 2) (v := ?_) rfl (by kernel_rfl) (by kernel_rfl) (by kernel_rfl) (fun _ _ _ h => h) (Or.inl ⟨by rfl, ?_⟩) (by assumption) ?_
      rotate_left
      · intro w hSw; (try dsimp only at hSw); go_simp; first | done | with_reducible rfl
      (try simp only [Act.put, Array.getInternal_eq_getElem, List.getElem_toArray, List.getElem_cons_succ, List.getElem_cons_zero, List.setIfInBounds_toArray, List.set_cons_zero, List.set_cons_succ])
      refine wpAnyH_take (i := 3) (v := ?_) rfl (by kernel_rfl) (by kernel_rfl) (by kernel_rfl) (fun _ _ _ h => h) (Or.inl ⟨by rfl, ?_⟩) (by assumption) ?_
      rotate_left
      · intro w hSw; (try dsimp only at hSw); go_simp; first | done | with_reducible rfl
      (try simp only [Act.put, Array.getInternal_eq_getElem, List.getElem_toArray, List.getElem_cons_succ, List.getElem_cons_zero, List.setIfInBounds_toArray, List.set_cons_zero, List.set_cons_succ])
      refine wpAnyH_take (i := 4) (v := .agg (x.cells).toArray) rfl (by kernel_rfl) (by kernel_rfl) (by kernel_rfl) (fun _ _ _ h => h) (yieldsIf_load_mid (by rfl) 154 (.tmp 27) rfl g (m * 3) rfl (x.cells) _ (fun w h => h.1) Tryz.underlying154 rfl sizeVers) (by assumption) ?_
      (try simp only [Act.put, Array.getInternal_eq_getElem, List.getElem_toArray, List.getElem_cons_succ, List.getElem_cons_zero, List.setIfInBounds_toArray, List.set_cons_zero, List.set_cons_succ])
      refine wpAnyH_take (i := 5) (v := .agg (v.cells).toArray) rfl (by kernel_rfl) (by kernel_rfl) (by kernel_rfl) (fun _ _ _ h => h) (yieldsIf_load_mid (by rfl) 154 (.tmp 4) rfl b1 0 rfl (v.cells) _ (fun w h => h.2) Tryz.underlying154 rfl sizeVers) (by assumption) ?_
      (try simp only [Act.put, Array.getInternal_eq_getElem, List.getElem_toArray, List.getElem_cons_succ, List.getElem_cons_zero, List.setIfInBounds_toArray, List.set_cons_zero, List.set_cons_succ])
      refine wpAnyH_ready (rs := [6]) (by kernel_rfl) (by simp) ?_
      refine AllReadyH.cons rfl (fun K hK => ?_) AllReadyH.nil
      go_simp
      refine (order_walk x v _).mono ?_
      rintro e wa ⟨rfl, hba⟩
      have HGa := Lib.hid (HG.out.drew.below hba HG.out.lt)
      have HBXa := Lib.hid (HBX.out.drew.below hba HBX.out.lt)
      have HBEa := Lib.hid ((HBE.out.drew).trans (hba.mono HBE.out.size))
      clear hba
      (try go_wp2_with fail)
      refine hK.out _ _ (⟨vers_at HGa.out hx, HBXa.out.range⟩) (fun hHeld2 => ?_)
      clear hK K hHeld
      have hHeld := hHeld2
      clear hHeld2
      (try simp only [Act.put, Array.getInternal_eq_getElem, List.getElem_toArray, List.getElem_cons_succ, List.getElem_cons_zero, List.setIfInBounds_toArray, List.set_cons_zero, List.set_cons_succ])
      refine wpAnyH_take (i := 7) (v := ?_) rfl (by kernel_rfl) (by kernel_rfl) (by kernel_rfl) (fun _ _ _ h => h) (Or.inl ⟨by rfl, ?_⟩) (by assumption) ?_
      rotate_left
      · intro w hSw; (try dsimp only at hSw); go_simp; first | done | with_reducible rfl
      (try simp only [Act.put, Array.getInternal_eq_getElem, List.getElem_toArray, List.getElem_cons_succ, List.getElem_cons_zero, List.setIfInBounds_toArray, List.set_cons_zero, List.set_cons_succ])
      refine wpAnyH_done (by kernel_rfl) ?_ _
      clear hHeld
      by_cases hc : cmpV x v < 0
      · go_wp2_with fail
        go_roundw
        case rel => exact ⟨m + 1, hi, by go_num, rfl, by omega, hin, Lib.hid ⟨fun t y hy ht => HM.out t m y x hy hx (by omega) hc, HI.out.2⟩, HGa, HBXa, HBEa⟩
        case measure => simp [intOf]; omega
      · go_wp2_with fail
        go_roundw
        case rel => exact ⟨lo, m, rfl, rfl, hm1, by omega, Lib.hid ⟨HI.out.1, fun t y hy ht => by
          by_cases h0 : cmpV y v < 0
          · exact absurd (HM.out m t x y hx hy ht h0) hc
          · omega⟩, HGa, HBXa, HBEa⟩
        case measure => simp [intOf]; omega
    · obtain rfl : lo = hi := by omega
      go_wp2_with fail
      by_cases hlo : lo < n
      · have hlo' : (lo : Int) < (n : Int) := by omega
        obtain ⟨x, hx⟩ : ∃ x, l[lo]? = some x := ⟨_, List.getElem?_eq_getElem (by have := HN.out; omega)⟩
        have hne := HNE.out lo x hx
        refine wp_region_held_drew (S := fun wx => wx.rangeAt g (lo * 3) x.cells ∧ wx.rangeAt b1 0 v.cells) (by kernel_rfl) (⟨vers_at HG.out.drew hx, HBX.out.drew.range⟩) (fun hHeld => ?_)
        refine wpAnyH_take (i := 0) (v := ?_) rfl (by kernel_rfl) (by kernel_rfl) (by kernel_rfl) (fun _ _ _ h => h) (Or.inl ⟨by rfl, ?_⟩) (by assumption) ?_
        rotate_left
        · intro w hSw; (try dsimp only at hSw); go_simp; first | done | with_reducible rfl
        (try simp only [Act.put, Array.getInternal_eq_getElem, List.getElem_toArray, List.getElem_cons_succ, List.getElem_cons_zero, List.setIfInBounds_toArray, List.set_cons_zero, List.set_cons_succ])
        refine wpAnyH_take (i := 1) (v := ?_) rfl (by kernel_rfl) (by kernel_rfl) (by kernel_rfl) (fun _ _ _ h => h) (Or.inl ⟨by rfl, ?_⟩) (by assumption) ?_
        rotate_left
        · intro w hSw; (try dsimp only at hSw); go_simp; first | done | with_reducible rfl
        (try simp only [Act.put, Array.getInternal_eq_getElem, List.getElem_toArray, List.getElem_cons_succ, List.getElem_cons_zero, List.setIfInBounds_toArray, List.set_cons_zero, List.set_cons_succ])
        refine wpAnyH_take (i := 2) (v := ?_) rfl (by kernel_rfl) (by kernel_rfl) (by kernel_rfl) (fun _ _ _ h => h) (Or.inl ⟨by rfl, ?_⟩) (by assumption) ?_
        rotate_left
        · intro w hSw; (try dsimp only at hSw); go_simp; first | done | with_reducible rfl
        (try simp only [Act.put, Array.getInternal_eq_getElem, List.getElem_toArray, List.getElem_cons_succ, List.getElem_cons_zero, List.setIfInBounds_toArray, List.set_cons_zero, List.set_cons_succ])
        refine wpAnyH_take (i := 3) (v := ?_) rfl (by kernel_rfl) (by kernel_rfl) (by kernel_rfl) (fun _ _ _ h => h) (Or.inl ⟨by rfl, ?_⟩) (by assumption) ?_
        rotate_left
        · intro w hSw; (try dsimp only at hSw); go_simp; first | done | with_reducible rfl
        (try simp only [Act.put, Array.getInternal_eq_getElem, List.getElem_toArray, List.getElem_cons_succ, List.getElem_cons_zero, List.setIfInBounds_toArray, List.set_cons_zero, List.set_cons_succ])
        refine wpAnyH_take (i := 4) (v := ?_) rfl (by kernel_rfl) (by kernel_rfl) (by kernel_rfl) (fun _ _ _ h => h) (Or.inl ⟨by rfl, ?_⟩) (by assumption) ?_
        rotate_left
        · intro w hSw; (try dsimp only at hSw); go_simp; first | done | with_reducible rfl
        (try simp only [Act.put, Array.getInternal_eq_getElem, List.getElem_toArray, List.getElem_cons_succ, List.getElem_cons_zero, List.setIfInBounds_toArray, List.set_cons_zero, List.set_cons_succ])
        refine wpAnyH_take (i := 5) (v := ?_) rfl (by kernel_rfl) (by kernel_rfl) (by kernel_rfl) (fun _ _ _ h => h) (Or.inl ⟨by rfl, ?_⟩) (by assumption) ?_
        rotate_left
        · intro w hSw; (try dsimp only at hSw); go_simp; first | done | with_reducible rfl
        (try simp only [Act.put, Array.getInternal_eq_getElem, List.getElem_toArray, List.getElem_cons_succ, List.getElem_cons_zero, List.setIfInBounds_toArray, List.set_cons_zero, List.set_cons_succ])
        refine wpAnyH_take (i := 6) (v := ?_) rfl (by kernel_rfl) (by kernel_rfl) (by kernel_rfl) (fun _ _ _ h => h) (Or.inl ⟨by rfl, ?_⟩) (by assumption) ?_
        rotate_left
        · intro w hSw; (try dsimp only at hSw); go_simp; first | done | with_reducible rfl
        (try simp only [Act.put, Array.getInternal_eq_getElem, List.getElem_toArray, List.getElem_cons_succ, List.getElem_cons_zero, List.setIfInBounds_toArray, List.set_cons_zero, List.set_cons_succ])
        refine wpAnyH_take (i := 7) (v := ?_) rfl (by kernel_rfl) (by kernel_rfl) (by kernel_rfl) (fun _ _ _ h => h) (Or.inl ⟨by rfl, ?_⟩) (by assumption) ?_
        rotate_left
        · intro w hSw; (try dsimp only at hSw); go_simp; first | done | with_reducible rfl
        (try simp only [Act.put, Array.getInternal_eq_getElem, List.getElem_toArray, List.getElem_cons_succ, List.getElem_cons_zero, List.setIfInBounds_toArray, List.set_cons_zero, List.set_cons_succ])
        refine wpAnyH_take (i := 8) (v := ?_) rfl (by kernel_rfl) (by kernel_rfl) (by kernel_rfl) (fun _ _ _ h => h) (Or.inl ⟨by rfl, ?_⟩) (by assumption) ?_
        rotate_left
        · intro w hSw; (try dsimp only at hSw); go_simp; first | done | with_reducible rfl
        (try simp only [Act.put, Array.getInternal_eq_getElem, List.getElem_toArray, List.getElem_cons_succ, List.getElem_cons_zero, List.setIfInBounds_toArray, List.set_cons_zero, List.set_cons_succ])
        refine wpAnyH_take (i := 9) (v := .agg (x.cells).toArray) rfl (by kernel_rfl) (by kernel_rfl) (by kernel_rfl) (fun _ _ _ h => h) (yieldsIf_load_mid (by rfl) 154 (.tmp 43) rfl g (lo * 3) rfl (x.cells) _ (fun w h => h.1) Tryz.underlying154 rfl sizeVers) (by assumption) ?_
        (try simp only [Act.put, Array.getInternal_eq_getElem, List.getElem_toArray, List.getElem_cons_succ, List.getElem_cons_zero, List.setIfInBounds_toArray, List.set_cons_zero, List.set_cons_succ])
        refine wpAnyH_take (i := 10) (v := .agg (v.cells).toArray) rfl (by kernel_rfl) (by kernel_rfl) (by kernel_rfl) (fun _ _ _ h => h) (yieldsIf_load_mid (by rfl) 154 (.tmp 4) rfl b1 0 rfl (v.cells) _ (fun w h => h.2) Tryz.underlying154 rfl sizeVers) (by assumption) ?_
        (try simp only [Act.put, Array.getInternal_eq_getElem, List.getElem_toArray, List.getElem_cons_succ, List.getElem_cons_zero, List.setIfInBounds_toArray, List.set_cons_zero, List.set_cons_succ])
        refine wpAnyH_ready (rs := [11]) (by kernel_rfl) (by simp) ?_
        refine AllReadyH.cons rfl (fun K hK => ?_) AllReadyH.nil
        go_simp
        refine (order_walk x v _).mono ?_
        rintro e wa ⟨rfl, hba⟩
        have HGa := Lib.hid (HG.out.drew.below hba HG.out.lt)
        have HBXa := Lib.hid (HBX.out.drew.below hba HBX.out.lt)
        have HBEa := Lib.hid ((HBE.out.drew).trans (hba.mono HBE.out.size))
        clear hba
        (try go_wp2_with fail)
        refine hK.out _ _ (⟨vers_at HGa.out hx, HBXa.out.range⟩) (fun hHeld2 => ?_)
        clear hK K hHeld
        have hHeld := hHeld2
        clear hHeld2
        (try simp only [Act.put, Array.getInternal_eq_getElem, List.getElem_toArray, List.getElem_cons_succ, List.getElem_cons_zero, List.setIfInBounds_toArray, List.set_cons_zero, List.set_cons_succ])
        refine wpAnyH_take (i := 12) (v := ?_) rfl (by kernel_rfl) (by kernel_rfl) (by kernel_rfl) (fun _ _ _ h => h) (Or.inl ⟨by rfl, ?_⟩) (by assumption) ?_
        rotate_left
        · intro w hSw; (try dsimp only at hSw); go_simp; first | done | with_reducible rfl
        (try simp only [Act.put, Array.getInternal_eq_getElem, List.getElem_toArray, List.getElem_cons_succ, List.getElem_cons_zero, List.setIfInBounds_toArray, List.set_cons_zero, List.set_cons_succ])
        refine wpAnyH_take (i := 13) (v := ?_) rfl (by kernel_rfl) (by kernel_rfl) (by kernel_rfl) (fun _ _ _ h => h) (Or.inl ⟨by rfl, ?_⟩) (by assumption) ?_
        rotate_left
        · intro w hSw; (try dsimp only at hSw); go_simp; first | done | with_reducible rfl
        (try simp only [Act.put, Array.getInternal_eq_getElem, List.getElem_toArray, List.getElem_cons_succ, List.getElem_cons_zero, List.setIfInBounds_toArray, List.set_cons_zero, List.set_cons_succ])
        refine wpAnyH_take (i := 14) (v := ?_) rfl (by kernel_rfl) (by kernel_rfl) (by kernel_rfl) (fun _ _ _ h => h) (Or.inl ⟨by rfl, ?_⟩) (by assumption) ?_
        rotate_left
        · intro w hSw; (try dsimp only at hSw); go_simp; first | done | with_reducible rfl
        (try simp only [Act.put, Array.getInternal_eq_getElem, List.getElem_toArray, List.getElem_cons_succ, List.getElem_cons_zero, List.setIfInBounds_toArray, List.set_cons_zero, List.set_cons_succ])
        refine wpAnyH_take (i := 15) (v := ?_) rfl (by kernel_rfl) (by kernel_rfl) (by kernel_rfl) (fun _ _ _ h => h) (Or.inl ⟨by rfl, ?_⟩) (by assumption) ?_
        rotate_left
        · intro w hSw; (try dsimp only at hSw); go_simp; first | done | with_reducible rfl
        (try simp only [Act.put, Array.getInternal_eq_getElem, List.getElem_toArray, List.getElem_cons_succ, List.getElem_cons_zero, List.setIfInBounds_toArray, List.set_cons_zero, List.set_cons_succ])
        refine wpAnyH_done (by kernel_rfl) ?_ _
        clear hHeld
        go_wp2_with fail
        go_ret2
        have hz : (cmpV x v == 0) = false := beq_eq_false_iff_ne.2 hne
        exact ⟨⟨lo, by show Ending.returned (.tuple #[.int .i64 (lo : Int), .bool (cmpV x v == 0)]) = _; rw [hz], ⟨by have := HN.out; omega, HI.out.1, HI.out.2⟩⟩, HBEa.out⟩
      · obtain rfl : lo = n := by omega
        refine wp_region_held_drew (S := fun wx => True) (by kernel_rfl) (trivial) (fun hHeld => ?_)
        refine wpAnyH_take (i := 0) (v := ?_) rfl (by kernel_rfl) (by kernel_rfl) (by kernel_rfl) (fun _ _ _ h => h) (Or.inl ⟨by rfl, ?_⟩) (by assumption) ?_
        rotate_left
        · intro w hSw; (try dsimp only at hSw); go_simp; first | done | with_reducible rfl
        (try simp only [Act.put, Array.getInternal_eq_getElem, List.getElem_toArray, List.getElem_cons_succ, List.getElem_cons_zero, List.setIfInBounds_toArray, List.set_cons_zero, List.set_cons_succ])
        refine wpAnyH_take (i := 1) (v := ?_) rfl (by kernel_rfl) (by kernel_rfl) (by kernel_rfl) (fun _ _ _ h => h) (Or.inl ⟨by rfl, ?_⟩) (by assumption) ?_
        rotate_left
        · intro w hSw; (try dsimp only at hSw); go_simp; first | done | with_reducible rfl
        (try simp only [Act.put, Array.getInternal_eq_getElem, List.getElem_toArray, List.getElem_cons_succ, List.getElem_cons_zero, List.setIfInBounds_toArray, List.set_cons_zero, List.set_cons_succ])
        refine wpAnyH_take (i := 2) (v := ?_) rfl (by kernel_rfl) (by kernel_rfl) (by kernel_rfl) (fun _ _ _ h => h) (Or.inl ⟨by rfl, ?_⟩) (by assumption) ?_
        rotate_left
        · intro w hSw; (try dsimp only at hSw); go_simp; first | done | with_reducible rfl
        (try simp only [Act.put, Array.getInternal_eq_getElem, List.getElem_toArray, List.getElem_cons_succ, List.getElem_cons_zero, List.setIfInBounds_toArray, List.set_cons_zero, List.set_cons_succ])
        refine wpAnyH_take (i := 3) (v := ?_) rfl (by kernel_rfl) (by kernel_rfl) (by kernel_rfl) (fun _ _ _ h => h) (Or.inl ⟨by rfl, ?_⟩) (by assumption) ?_
        rotate_left
        · intro w hSw; (try dsimp only at hSw); go_simp; first | done | with_reducible rfl
        (try simp only [Act.put, Array.getInternal_eq_getElem, List.getElem_toArray, List.getElem_cons_succ, List.getElem_cons_zero, List.setIfInBounds_toArray, List.set_cons_zero, List.set_cons_succ])
        refine wpAnyH_take (i := 4) (v := ?_) rfl (by kernel_rfl) (by kernel_rfl) (by kernel_rfl) (fun _ _ _ h => h) (Or.inl ⟨by rfl, ?_⟩) (by assumption) ?_
        rotate_left
        · intro w hSw; (try dsimp only at hSw); go_simp; first | done | with_reducible rfl
        (try simp only [Act.put, Array.getInternal_eq_getElem, List.getElem_toArray, List.getElem_cons_succ, List.getElem_cons_zero, List.setIfInBounds_toArray, List.set_cons_zero, List.set_cons_succ])
        refine wpAnyH_take (i := 5) (v := undef) rfl (by kernel_rfl) (by kernel_rfl) (by kernel_rfl) (fun _ _ _ h => h) (Or.inr ⟨by rfl, rfl⟩) (by assumption) ?_
        (try simp only [Act.put, Array.getInternal_eq_getElem, List.getElem_toArray, List.getElem_cons_succ, List.getElem_cons_zero, List.setIfInBounds_toArray, List.set_cons_zero, List.set_cons_succ])
        refine wpAnyH_take (i := 6) (v := undef) rfl (by kernel_rfl) (by kernel_rfl) (by kernel_rfl) (fun _ _ _ h => h) (Or.inr ⟨by rfl, rfl⟩) (by assumption) ?_
        (try simp only [Act.put, Array.getInternal_eq_getElem, List.getElem_toArray, List.getElem_cons_succ, List.getElem_cons_zero, List.setIfInBounds_toArray, List.set_cons_zero, List.set_cons_succ])
        refine wpAnyH_take (i := 7) (v := undef) rfl (by kernel_rfl) (by kernel_rfl) (by kernel_rfl) (fun _ _ _ h => h) (Or.inr ⟨by rfl, rfl⟩) (by assumption) ?_
        (try simp only [Act.put, Array.getInternal_eq_getElem, List.getElem_toArray, List.getElem_cons_succ, List.getElem_cons_zero, List.setIfInBounds_toArray, List.set_cons_zero, List.set_cons_succ])
        refine wpAnyH_take (i := 8) (v := undef) rfl (by kernel_rfl) (by kernel_rfl) (by kernel_rfl) (fun _ _ _ h => h) (Or.inr ⟨by rfl, rfl⟩) (by assumption) ?_
        (try simp only [Act.put, Array.getInternal_eq_getElem, List.getElem_toArray, List.getElem_cons_succ, List.getElem_cons_zero, List.setIfInBounds_toArray, List.set_cons_zero, List.set_cons_succ])
        refine wpAnyH_take (i := 9) (v := undef) rfl (by kernel_rfl) (by kernel_rfl) (by kernel_rfl) (fun _ _ _ h => h) (Or.inr ⟨by rfl, rfl⟩) (by assumption) ?_
        (try simp only [Act.put, Array.getInternal_eq_getElem, List.getElem_toArray, List.getElem_cons_succ, List.getElem_cons_zero, List.setIfInBounds_toArray, List.set_cons_zero, List.set_cons_succ])
        refine wpAnyH_take (i := 10) (v := undef) rfl (by kernel_rfl) (by kernel_rfl) (by kernel_rfl) (fun _ _ _ h => h) (Or.inr ⟨by rfl, rfl⟩) (by assumption) ?_
        (try simp only [Act.put, Array.getInternal_eq_getElem, List.getElem_toArray, List.getElem_cons_succ, List.getElem_cons_zero, List.setIfInBounds_toArray, List.set_cons_zero, List.set_cons_succ])
        refine wpAnyH_take (i := 11) (v := undef) rfl (by kernel_rfl) (by kernel_rfl) (by kernel_rfl) (fun _ _ _ h => h) (Or.inr ⟨by rfl, rfl⟩) (by assumption) ?_
        (try simp only [Act.put, Array.getInternal_eq_getElem, List.getElem_toArray, List.getElem_cons_succ, List.getElem_cons_zero, List.setIfInBounds_toArray, List.set_cons_zero, List.set_cons_succ])
        refine wpAnyH_take (i := 12) (v := undef) rfl (by kernel_rfl) (by kernel_rfl) (by kernel_rfl) (fun _ _ _ h => h) (Or.inr ⟨by rfl, rfl⟩) (by assumption) ?_
        (try simp only [Act.put, Array.getInternal_eq_getElem, List.getElem_toArray, List.getElem_cons_succ, List.getElem_cons_zero, List.setIfInBounds_toArray, List.set_cons_zero, List.set_cons_succ])
        refine wpAnyH_take (i := 13) (v := ?_) rfl (by kernel_rfl) (by kernel_rfl) (by kernel_rfl) (fun _ _ _ h => h) (Or.inl ⟨by rfl, ?_⟩) (by assumption) ?_
        rotate_left
        · intro w hSw; (try dsimp only at hSw); go_simp; first | done | with_reducible rfl
        (try simp only [Act.put, Array.getInternal_eq_getElem, List.getElem_toArray, List.getElem_cons_succ, List.getElem_cons_zero, List.setIfInBounds_toArray, List.set_cons_zero, List.set_cons_succ])
        refine wpAnyH_take (i := 14) (v := ?_) rfl (by kernel_rfl) (by kernel_rfl) (by kernel_rfl) (fun _ _ _ h => h) (Or.inl ⟨by rfl, ?_⟩) (by assumption) ?_
        rotate_left
        · intro w hSw; (try dsimp only at hSw); go_simp; first | done | with_reducible rfl
        (try simp only [Act.put, Array.getInternal_eq_getElem, List.getElem_toArray, List.getElem_cons_succ, List.getElem_cons_zero, List.setIfInBounds_toArray, List.set_cons_zero, List.set_cons_succ])
        refine wpAnyH_take (i := 15) (v := ?_) rfl (by kernel_rfl) (by kernel_rfl) (by kernel_rfl) (fun _ _ _ h => h) (Or.inl ⟨by rfl, ?_⟩) (by assumption) ?_
        rotate_left
        · intro w hSw; (try dsimp only at hSw); go_simp; first | done | with_reducible rfl
        (try simp only [Act.put, Array.getInternal_eq_getElem, List.getElem_toArray, List.getElem_cons_succ, List.getElem_cons_zero, List.setIfInBounds_toArray, List.set_cons_zero, List.set_cons_succ])
        refine wpAnyH_done (by kernel_rfl) ?_ _
        clear hHeld
        go_wp2_with fail
        go_ret2
        exact ⟨⟨lo, rfl, ⟨by have := HN.out; omega, HI.out.1, HI.out.2⟩⟩, HBE.out.drew⟩
end Go.Proofs.YtppdboadjefieaaGreat

