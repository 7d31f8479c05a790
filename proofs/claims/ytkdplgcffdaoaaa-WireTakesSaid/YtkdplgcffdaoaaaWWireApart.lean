/- Walk of WireApart: for all two messages the law returns true. No condition. -/
import Derived.Test.YtkdplgcffdaoaaaWireS3
import Derived.Deep.RegionHeld3
import Derived.Deep.MidRow
namespace Go.Proofs.Ytkdplgcffdaoaaa
set_option linter.unusedSimpArgs false
set_option linter.unusedVariables false
open Go Go.RowKit
set_option linter.unusedVariables false

theorem MsgFits.below {w w' : World} {m : MsgD} {u l : Value} (h : MsgFits w m u l) (hb : Below w.heap.size w w') : MsgFits w' m u l :=
  ⟨h.kind, h.epoch, h.seq, h.nonce, h.tag, h.last, h.sld, h.rcp, h.at_, h.slot, h.up.below hb (Nat.le_refl _), h.left.below hb (Nat.le_refl _), h.upl, h.leftl⟩
theorem Ends.any {ok : Prop} {l : List UInt8} {e : Ending} (h : Ends ok l 2 e) : ∃ s f, e = .returned (.tuple #[.string s, .int .i64 f]) ∧ ((ok ∧ f = 0 ∧ Txt s l) ∨ (¬ ok ∧ f = 2)) := by
  rcases h with ⟨h1, r, h2, h3⟩ | ⟨h1, h2⟩
  · exact ⟨r, 0, h2, .inl ⟨h1, rfl, h3⟩⟩
  · exact ⟨_, 2, h2, .inr ⟨h1, rfl⟩⟩
set_option maxRecDepth 100000 in
set_option maxHeartbeats 16000000 in
theorem wireApart_walk (m : MsgD) (u l : Value) (n : MsgD) (u' l' : Value) (w : World) (fm : MsgFits w m u l) (fn : MsgFits w n u' l') :
    Calls Try.prog 3 #[m.v u l, n.v u' l'] w fun e w' => e = .returned (.bool true) ∧ Below w.heap.size w w' := by
  have HF := Lib.hid fm; have HG := Lib.hid fn; clear fm fn
  go_enter Try.func3, Try.ntmps3
  go_wp2_with (first
    | ((with_reducible refine wpList_box_new 39 (.tmp 0) (m.cells u l) (some 2) ?hgd ?ho ?hd ?hx ?_); (case hgd => rfl); (case ho => rfl); (case hd => rfl); (case hx => rfl); (intro b1 w1 l1 B1 e1 z1))
    | ((with_reducible refine wpList_box_new 39 (.tmp 1) (n.cells u' l') (some 3) ?hgd ?ho ?hd ?hx ?_); (case hgd => rfl); (case ho => rfl); (case hd => rfl); (case hx => rfl); (intro b2 w2 l2 B2 e2 z2); have BB := B1.below e2 (Nat.lt_of_lt_of_le B1.lt l2); have HB2 : Below w.heap.size w w2 := (e1.mono l1).trans (e2.mono (by have := e1.size; omega)); have f1 : w.heap.size ≤ b1 := l1; have f2 : w.heap.size ≤ b2 := (by have := e1.size; omega); have h12 : b1 ≠ b2 := (by have := B1.lt; omega))
    | ((with_reducible refine wpList_load_met 39 (.tmp 2) b1 0 (m.cells u l) _ (some 10) (BB).range Try.underlying39 rfl sizeMsg ?hg ?ho ?hds ?hx ?_); (case ho => rfl); (case hg => rfl); (case hds => rfl); (case hx => rfl))
    | fail)
  clear e1 e2 l1 l2 z1 z2 B1
  refine (few27_walk m u l _ (HF.out.below HB2)).mono ?_
  rintro e w3 ⟨hq, hb3⟩
  obtain ⟨q, rfl, hq⟩ := hq
  have X3 := BB.below hb3 BB.lt
  have Y3 := B2.below hb3 B2.lt
  have HB3 := HB2.trans (hb3.mono HB2.size)
  clear BB B2 HB2 hb3
  cases q with
  | false =>
    go_wp2_with fail
    refine (alive27 _).mono ?_
    rintro e wz ⟨rfl, hbz⟩
    go_wp2_with fail
    go_ret
    exact ⟨rfl, HB3.trans (hbz.mono HB3.size)⟩
  | true =>
    have FM := Lib.hid (hq rfl); clear hq
    go_wp2_with (first
      | ((with_reducible refine wpList_load_met 39 (.tmp 3) b2 0 (n.cells u' l') _ (some 14) (Y3).range Try.underlying39 rfl sizeMsg ?hg ?ho ?hds ?hx ?_); (case ho => rfl); (case hg => rfl); (case hds => rfl); (case hx => rfl))
      | fail)
    refine (few27_walk n u' l' _ (HG.out.below HB3)).mono ?_
    rintro e w4 ⟨hq, hb4⟩
    obtain ⟨q, rfl, hq⟩ := hq
    have X4 := X3.below hb4 X3.lt
    have Y4 := Y3.below hb4 Y3.lt
    have HB4 := HB3.trans (hb4.mono HB3.size)
    clear X3 Y3 HB3 hb4
    cases q with
    | false =>
      go_wp2_with fail
      refine (alive27 _).mono ?_
      rintro e wz ⟨rfl, hbz⟩
      go_wp2_with fail
      go_ret
      exact ⟨rfl, HB4.trans (hbz.mono HB4.size)⟩
    | true =>
      have FN := Lib.hid (hq rfl); clear hq
      go_wp2_with (first
        | ((with_reducible refine wpList_load_met 39 (.tmp 2) b1 0 (m.cells u l) _ (some 20) (X4).range Try.underlying39 rfl sizeMsg ?hg ?ho ?hds ?hx ?_); (case ho => rfl); (case hg => rfl); (case hds => rfl); (case hx => rfl))
        | fail)
      refine (said27_walk m u l _ (HF.out.below HB4).up (HF.out.below HB4).left (FM.out.tame HF.out)).mono ?_
      rintro e w5 ⟨he, hb5⟩
      obtain ⟨s, f, rfl, hs⟩ := he.any
      have HS := Lib.hid hs; clear hs he
      have X5 := X4.below hb5 X4.lt
      have Y5 := Y4.below hb5 Y4.lt
      have HB5 := HB4.trans (hb5.mono HB4.size)
      clear X4 Y4 HB4 hb5
      go_wp2_with (first
        | ((with_reducible refine wpList_load_met 39 (.tmp 3) b2 0 (n.cells u' l') _ (some 25) (Y5).range Try.underlying39 rfl sizeMsg ?hg ?ho ?hds ?hx ?_); (case ho => rfl); (case hg => rfl); (case hds => rfl); (case hx => rfl))
        | fail)
      refine (said27_walk n u' l' _ (HG.out.below HB5).up (HG.out.below HB5).left (FN.out.tame HG.out)).mono ?_
      rintro e w6 ⟨he, hb6⟩
      obtain ⟨t, g, rfl, ht⟩ := he.any
      have HT := Lib.hid ht; clear ht he
      have X6 := X5.below hb6 X5.lt
      have Y6 := Y5.below hb6 Y5.lt
      have HB6 := HB5.trans (hb6.mono HB5.size)
      clear X5 Y5 HB5 hb6
      by_cases cf : f = 0
      rotate_left
      · go_wp2_with fail
        refine (alive27 _).mono ?_
        rintro e wz ⟨rfl, hbz⟩
        go_wp2_with fail
        go_ret
        exact ⟨rfl, HB6.trans (hbz.mono HB6.size)⟩
      by_cases cg : g = 0
      rotate_left
      · go_wp2_with fail
        refine (alive27 _).mono ?_
        rintro e wz ⟨rfl, hbz⟩
        go_wp2_with fail
        go_ret
        exact ⟨rfl, HB6.trans (hbz.mono HB6.size)⟩
      subst cf cg
      have KM : (taggedB m.kind && msgOk m) = true ∧ Txt s (msgSaid m) := by
        rcases HS.out with ⟨h1, _, h2⟩ | ⟨_, h2⟩
        · exact ⟨h1, h2⟩
        · cases h2
      have KN : (taggedB n.kind && msgOk n) = true ∧ Txt t (msgSaid n) := by
        rcases HT.out with ⟨h1, _, h2⟩ | ⟨_, h2⟩
        · exact ⟨h1, h2⟩
        · cases h2
      have KMM := Lib.hid KM
      have KNN := Lib.hid KN
      clear KM KN
      go_wp2_with fail
      refine (noughts_walk 32 _ (by omega) (by omega)).mono ?_
      rintro e w7 ⟨za, rfl, tza, hb7⟩
      have X7 := X6.below hb7 X6.lt
      have Y7 := Y6.below hb7 Y6.lt
      have HB7 := HB6.trans (hb7.mono HB6.size)
      clear X6 Y6 HB6 hb7
      go_wp2_with fail
      refine (noughts_walk 32 _ (by omega) (by omega)).mono ?_
      rintro e w8 ⟨zb, rfl, tzb, hb8⟩
      obtain rfl : za = zb := tza.eq tzb
      have X8 := X7.below hb8 X7.lt
      have Y8 := Y7.below hb8 Y7.lt
      have HB8 := HB7.trans (hb8.mono HB7.size)
      clear X7 Y7 HB7 hb8 tza tzb
      go_wp2_with (first
        | ((with_reducible refine wpList_store_at 9 (.tmp 38) (.tmp 36) b1 4 (.string za) _ _ X8 (Nat.le_of_ble_eq_true rfl) (by kernel_rfl) rfl ?hgd ?ho ?hx ?hy ?_); (case hgd => rfl); (case ho => rfl); (case hx => rfl); (case hy => rfl); (intro w9 B9 o9); replace B9 : Blk w9 b1 ((tagless m za).cells u l) 39 := B9; have Y9 := o9.blk Y8 h12.symm)
        | ((with_reducible refine wpList_store_at 9 (.tmp 39) (.tmp 37) b2 4 (.string za) _ _ Y9 (Nat.le_of_ble_eq_true rfl) (by kernel_rfl) rfl ?hgd ?ho ?hx ?hy ?_); (case hgd => rfl); (case ho => rfl); (case hx => rfl); (case hy => rfl); (intro w10 B10 o10); replace B10 : Blk w10 b2 ((tagless n za).cells u' l') 39 := B10; have X10 := o10.blk B9 h12)
        | fail)
      have HB10 : Below w.heap.size w w10 := o10.below (o9.below HB8 f1) f2
      have hmn : min (s.size : Int) t.size = ((min s.size t.size : Nat) : Int) := by omega
      rw [hmn]
      obtain ⟨k, hk⟩ : ∃ k, k = min s.size t.size := ⟨_, rfl⟩
      rw [← hk]
      have hk1 : k ≤ s.size := by omega
      have hk2 : k ≤ t.size := by omega
      have hk1' : (k : Int) ≤ s.size := by omega
      have hk2' : (k : Int) ≤ t.size := by omega
      obtain ⟨q, hq⟩ : ∃ q, decide (tagless m za = tagless n za) = q := ⟨_, rfl⟩
      have tm : taggedB m.kind = true ∧ msgOk m = true := by simpa using KMM.out.1
      have tn : taggedB n.kind = true ∧ msgOk n = true := by simpa using KNN.out.1
      have q1 : ((s.extract 0 k).toList == (t.extract 0 k).toList) = q := by
        rw [bytesEqB, ← hq, Bool.eq_iff_iff, decide_eq_true_eq, decide_eq_true_eq]
        have h1 := KMM.out.2.extract 0 k
        have h2 := KNN.out.2.extract 0 k
        rw [List.drop_zero] at h1 h2
        rw [h1.beq h2]
        exact said_apart tm.2 tn.2 tm.1 tn.1 za k (by rw [hk, KMM.out.2.size, KNN.out.2.size])
      have q2 : (s.toList == t.toList) = q := by
        rw [bytesEqB, ← hq, Bool.eq_iff_iff, decide_eq_true_eq, decide_eq_true_eq, KMM.out.2.beq KNN.out.2]
        exact said_inj tm.2 tn.2 tm.1 tn.1 za
      have HQ := Lib.hid hq
      have HK := Lib.hid hk
      clear hq hk hmn tm tn o9 o10 X8 Y8 B9 Y9 HB8
      have RU : Hid (∀ w', Below w.heap.size w w' → PRow w' u (tagless m za).told.up ∧ PRow w' l (tagless m za).told.left ∧ PRow w' u' (tagless n za).told.up ∧ PRow w' l' (tagless n za).told.left) := Lib.hid (fun w' hb => ⟨(HF.out.up).below hb (Nat.le_refl _), (HF.out.left).below hb (Nat.le_refl _), (HG.out.up).below hb (Nat.le_refl _), (HG.out.left).below hb (Nat.le_refl _)⟩)
      have HX := Lib.hid X10
      have HY := Lib.hid B10
      have HB := Lib.hid HB10
      have hS0 : (fun w' => w'.rangeAt b1 0 ((tagless m za).cells u l) ∧ w'.rangeAt b2 0 ((tagless n za).cells u' l')) w10.drew := ⟨X10.drew.range, B10.drew.range⟩
      clear X10 B10 HB10
      refine wp_region_held_drew (S := fun w' => w'.rangeAt b1 0 ((tagless m za).cells u l) ∧ w'.rangeAt b2 0 ((tagless n za).cells u' l')) (by kernel_rfl) (hS0) (fun hHeld => ?_)
      clear hS0
      refine wpAnyH_take (i := 0) (v := ?_) rfl (by kernel_rfl) (by kernel_rfl) (by kernel_rfl) (fun _ _ _ h => h) (Or.inl ⟨by rfl, ?_⟩) (by assumption) ?_
      rotate_left
      · intro w hSw; (try dsimp only at hSw); go_simp; first | done | with_reducible rfl
      (try simp only [Act.put, Array.getInternal_eq_getElem, List.getElem_toArray, List.getElem_cons_succ, List.getElem_cons_zero, List.setIfInBounds_toArray, List.set_cons_zero, List.set_cons_succ])
      refine wpAnyH_take (i := 1) (v := ?_) rfl (by kernel_rfl) (by kernel_rfl) (by kernel_rfl) (fun _ _ _ h => h) (Or.inl ⟨by rfl, ?_⟩) (by assumption) ?_
      rotate_left
      · intro w hSw; (try dsimp only at hSw); go_simp; first | done | with_reducible rfl
      (try simp only [Act.put, Array.getInternal_eq_getElem, List.getElem_toArray, List.getElem_cons_succ, List.getElem_cons_zero, List.setIfInBounds_toArray, List.set_cons_zero, List.set_cons_succ])
      refine wpAnyH_take (i := 2) (v := ?_) rfl (by kernel_rfl) (by kernel_rfl) (by kernel_rfl) (fun _ _ _ h => h) (Or.inl ⟨by rfl, ?_⟩) (by assumption) ?_
      rotate_left
      · intro w hSw; (try dsimp only at hSw); go_simp; first | done | with_reducible rfl
      (try simp only [Act.put, Array.getInternal_eq_getElem, List.getElem_toArray, List.getElem_cons_succ, List.getElem_cons_zero, List.setIfInBounds_toArray, List.set_cons_zero, List.set_cons_succ])
      refine wpAnyH_take (i := 3) (v := ?_) rfl (by kernel_rfl) (by kernel_rfl) (by kernel_rfl) (fun _ _ _ h => h) (Or.inl ⟨by rfl, ?_⟩) (by assumption) ?_
      rotate_left
      · intro w hSw; (try dsimp only at hSw); go_simp; first | done | with_reducible rfl
      (try simp only [Act.put, Array.getInternal_eq_getElem, List.getElem_toArray, List.getElem_cons_succ, List.getElem_cons_zero, List.setIfInBounds_toArray, List.set_cons_zero, List.set_cons_succ])
      refine wpAnyH_take (i := 4) (v := ?_) rfl (by kernel_rfl) (by kernel_rfl) (by kernel_rfl) (fun _ _ _ h => h) (Or.inl ⟨by rfl, ?_⟩) (by assumption) ?_
      rotate_left
      · intro w hSw; (try dsimp only at hSw); go_simp; first | done | with_reducible rfl
      (try simp only [Act.put, Array.getInternal_eq_getElem, List.getElem_toArray, List.getElem_cons_succ, List.getElem_cons_zero, List.setIfInBounds_toArray, List.set_cons_zero, List.set_cons_succ])
      refine wpAnyH_take (i := 5) (v := ?_) rfl (by kernel_rfl) (by kernel_rfl) (by kernel_rfl) (fun _ _ _ h => h) (Or.inl ⟨by rfl, ?_⟩) (by assumption) ?_
      rotate_left
      · intro w hSw; (try dsimp only at hSw); go_simp; first | done | with_reducible rfl
      (try simp only [Act.put, Array.getInternal_eq_getElem, List.getElem_toArray, List.getElem_cons_succ, List.getElem_cons_zero, List.setIfInBounds_toArray, List.set_cons_zero, List.set_cons_succ])
      refine wpAnyH_take (i := 6) (v := ?_) rfl (by kernel_rfl) (by kernel_rfl) (by kernel_rfl) (fun _ _ _ h => h) (Or.inl ⟨by rfl, ?_⟩) (by assumption) ?_
      rotate_left
      · intro w hSw; (try dsimp only at hSw); go_simp; first | done | with_reducible rfl
      (try simp only [Act.put, Array.getInternal_eq_getElem, List.getElem_toArray, List.getElem_cons_succ, List.getElem_cons_zero, List.setIfInBounds_toArray, List.set_cons_zero, List.set_cons_succ])
      refine wpAnyH_take (i := 7) (v := .agg ((tagless m za).cells u l).toArray) rfl (by kernel_rfl) (by kernel_rfl) (by kernel_rfl) (fun _ _ _ h => h) (yieldsIf_load_mid (by rfl) 39 (.tmp 2) rfl b1 0 rfl ((tagless m za).cells u l) _ (fun w h => h.1) Try.underlying39 rfl sizeMsg) (by assumption) ?_
      (try simp only [Act.put, Array.getInternal_eq_getElem, List.getElem_toArray, List.getElem_cons_succ, List.getElem_cons_zero, List.setIfInBounds_toArray, List.set_cons_zero, List.set_cons_succ])
      refine wpAnyH_take (i := 8) (v := .agg ((tagless n za).cells u' l').toArray) rfl (by kernel_rfl) (by kernel_rfl) (by kernel_rfl) (fun _ _ _ h => h) (yieldsIf_load_mid (by rfl) 39 (.tmp 3) rfl b2 0 rfl ((tagless n za).cells u' l') _ (fun w h => h.2) Try.underlying39 rfl sizeMsg) (by assumption) ?_
      (try simp only [Act.put, Array.getInternal_eq_getElem, List.getElem_toArray, List.getElem_cons_succ, List.getElem_cons_zero, List.setIfInBounds_toArray, List.set_cons_zero, List.set_cons_succ])
      refine wpAnyH_ready (rs := [9]) (by kernel_rfl) (by simp) ?_
      refine AllReadyH.cons rfl (fun K hK => ?_) AllReadyH.nil
      go_simp
      refine (same27_walk (tagless m za) (tagless n za) u l u' l' _ (RU.out _ HB.out.drew).1 (RU.out _ HB.out.drew).2.1 (RU.out _ HB.out.drew).2.2.1 (RU.out _ HB.out.drew).2.2.2 HF.out.upl HF.out.leftl HG.out.upl HG.out.leftl).mono ?_
      rintro e w11 ⟨he, hb11⟩
      rw [HQ.out] at he
      subst he
      have HB11 := Lib.hid (Below.trans (HB.out.drew) (hb11.mono (Below.size (HB.out.drew))))
      have HX11 := Lib.hid (HX.out.drew.below hb11 HX.out.drew.lt)
      have HY11 := Lib.hid (HY.out.drew.below hb11 HY.out.drew.lt)
      (try go_wp2_with fail)
      refine hK.out _ _ (⟨HX11.out.range, HY11.out.range⟩) (fun hHeld2 => ?_)
      clear hK K hHeld
      have hHeld := hHeld2
      clear hHeld2
      (try simp only [Act.put, Array.getInternal_eq_getElem, List.getElem_toArray, List.getElem_cons_succ, List.getElem_cons_zero, List.setIfInBounds_toArray, List.set_cons_zero, List.set_cons_succ])
      refine wpAnyH_take (i := 10) (v := ?_) rfl (by kernel_rfl) (by kernel_rfl) (by kernel_rfl) (fun _ _ _ h => h) (Or.inl ⟨by rfl, ?_⟩) (by assumption) ?_
      rotate_left
      · intro w hSw; (try dsimp only at hSw); go_simp; first | done | with_reducible rfl
      (try simp only [Act.put, Array.getInternal_eq_getElem, List.getElem_toArray, List.getElem_cons_succ, List.getElem_cons_zero, List.setIfInBounds_toArray, List.set_cons_zero, List.set_cons_succ])
      refine wpAnyH_take (i := 11) (v := ?_) rfl (by kernel_rfl) (by kernel_rfl) (by kernel_rfl) (fun _ _ _ h => h) (Or.inl ⟨by rfl, ?_⟩) (by assumption) ?_
      rotate_left
      · intro w hSw; (try dsimp only at hSw); go_simp; first | done | with_reducible rfl
      (try simp only [Act.put, Array.getInternal_eq_getElem, List.getElem_toArray, List.getElem_cons_succ, List.getElem_cons_zero, List.setIfInBounds_toArray, List.set_cons_zero, List.set_cons_succ])
      refine wpAnyH_take (i := 12) (v := ?_) rfl (by kernel_rfl) (by kernel_rfl) (by kernel_rfl) (fun _ _ _ h => h) (Or.inl ⟨by rfl, ?_⟩) (by assumption) ?_
      rotate_left
      · intro w hSw; (try dsimp only at hSw); go_simp; first | done | with_reducible rfl
      (try simp only [Act.put, Array.getInternal_eq_getElem, List.getElem_toArray, List.getElem_cons_succ, List.getElem_cons_zero, List.setIfInBounds_toArray, List.set_cons_zero, List.set_cons_succ])
      refine wpAnyH_take (i := 13) (v := ?_) rfl (by kernel_rfl) (by kernel_rfl) (by kernel_rfl) (fun _ _ _ h => h) (Or.inl ⟨by rfl, ?_⟩) (by assumption) ?_
      rotate_left
      · intro w hSw; (try dsimp only at hSw); go_simp; first | done | with_reducible rfl
      (try simp only [Act.put, Array.getInternal_eq_getElem, List.getElem_toArray, List.getElem_cons_succ, List.getElem_cons_zero, List.setIfInBounds_toArray, List.set_cons_zero, List.set_cons_succ])
      refine wpAnyH_take (i := 14) (v := ?_) rfl (by kernel_rfl) (by kernel_rfl) (by kernel_rfl) (fun _ _ _ h => h) (Or.inl ⟨by rfl, ?_⟩) (by assumption) ?_
      rotate_left
      · intro w hSw; (try dsimp only at hSw); go_simp; first | done | with_reducible rfl
      (try simp only [Act.put, Array.getInternal_eq_getElem, List.getElem_toArray, List.getElem_cons_succ, List.getElem_cons_zero, List.setIfInBounds_toArray, List.set_cons_zero, List.set_cons_succ])
      refine wpAnyH_take (i := 15) (v := .agg ((tagless m za).cells u l).toArray) rfl (by kernel_rfl) (by kernel_rfl) (by kernel_rfl) (fun _ _ _ h => h) (yieldsIf_load_mid (by rfl) 39 (.tmp 2) rfl b1 0 rfl ((tagless m za).cells u l) _ (fun w h => h.1) Try.underlying39 rfl sizeMsg) (by assumption) ?_
      (try simp only [Act.put, Array.getInternal_eq_getElem, List.getElem_toArray, List.getElem_cons_succ, List.getElem_cons_zero, List.setIfInBounds_toArray, List.set_cons_zero, List.set_cons_succ])
      refine wpAnyH_take (i := 16) (v := .agg ((tagless n za).cells u' l').toArray) rfl (by kernel_rfl) (by kernel_rfl) (by kernel_rfl) (fun _ _ _ h => h) (yieldsIf_load_mid (by rfl) 39 (.tmp 3) rfl b2 0 rfl ((tagless n za).cells u' l') _ (fun w h => h.2) Try.underlying39 rfl sizeMsg) (by assumption) ?_
      (try simp only [Act.put, Array.getInternal_eq_getElem, List.getElem_toArray, List.getElem_cons_succ, List.getElem_cons_zero, List.setIfInBounds_toArray, List.set_cons_zero, List.set_cons_succ])
      refine wpAnyH_ready (rs := [17]) (by kernel_rfl) (by simp) ?_
      refine AllReadyH.cons rfl (fun K hK => ?_) AllReadyH.nil
      go_simp
      refine (same27_walk (tagless m za) (tagless n za) u l u' l' _ (RU.out _ HB11.out).1 (RU.out _ HB11.out).2.1 (RU.out _ HB11.out).2.2.1 (RU.out _ HB11.out).2.2.2 HF.out.upl HF.out.leftl HG.out.upl HG.out.leftl).mono ?_
      rintro e w12 ⟨he, hb12⟩
      rw [HQ.out] at he
      subst he
      have HB12 := Lib.hid (Below.trans (HB11.out) (hb12.mono (Below.size (HB11.out))))
      have HX12 := Lib.hid (HX11.out.below hb12 HX11.out.lt)
      have HY12 := Lib.hid (HY11.out.below hb12 HY11.out.lt)
      (try go_wp2_with fail)
      refine hK.out _ _ (⟨HX12.out.range, HY12.out.range⟩) (fun hHeld2 => ?_)
      clear hK K hHeld
      have hHeld := hHeld2
      clear hHeld2
      (try simp only [Act.put, Array.getInternal_eq_getElem, List.getElem_toArray, List.getElem_cons_succ, List.getElem_cons_zero, List.setIfInBounds_toArray, List.set_cons_zero, List.set_cons_succ])
      refine wpAnyH_take (i := 18) (v := ?_) rfl (by kernel_rfl) (by kernel_rfl) (by kernel_rfl) (fun _ _ _ h => h) (Or.inl ⟨by rfl, ?_⟩) (by assumption) ?_
      rotate_left
      · intro w hSw; (try dsimp only at hSw); go_simp; first | done | with_reducible rfl
      (try simp only [Act.put, Array.getInternal_eq_getElem, List.getElem_toArray, List.getElem_cons_succ, List.getElem_cons_zero, List.setIfInBounds_toArray, List.set_cons_zero, List.set_cons_succ])
      refine wpAnyH_take (i := 19) (v := ?_) rfl (by kernel_rfl) (by kernel_rfl) (by kernel_rfl) (fun _ _ _ h => h) (Or.inl ⟨by rfl, ?_⟩) (by assumption) ?_
      rotate_left
      · intro w hSw; (try dsimp only at hSw); go_simp; first | done | with_reducible rfl
      (try simp only [Act.put, Array.getInternal_eq_getElem, List.getElem_toArray, List.getElem_cons_succ, List.getElem_cons_zero, List.setIfInBounds_toArray, List.set_cons_zero, List.set_cons_succ])
      refine wpAnyH_take (i := 20) (v := ?_) rfl (by kernel_rfl) (by kernel_rfl) (by kernel_rfl) (fun _ _ _ h => h) (Or.inl ⟨by rfl, ?_⟩) (by assumption) ?_
      rotate_left
      · intro w hSw; (try dsimp only at hSw); go_simp; first | done | with_reducible rfl
      (try simp only [Act.put, Array.getInternal_eq_getElem, List.getElem_toArray, List.getElem_cons_succ, List.getElem_cons_zero, List.setIfInBounds_toArray, List.set_cons_zero, List.set_cons_succ])
      refine wpAnyH_ready (rs := [21]) (by kernel_rfl) (by simp) ?_
      refine AllReadyH.cons rfl (fun K hK => ?_) AllReadyH.nil
      go_simp
      refine (alive27 _).mono ?_
      rintro e w13 ⟨rfl, hb13⟩
      have HB13 := Lib.hid (HB12.out.trans (hb13.mono HB12.out.size))
      (try go_wp2_with fail)
      refine hK.out _ _ (⟨(HX12.out.below hb13 HX12.out.lt).range, (HY12.out.below hb13 HY12.out.lt).range⟩) (fun hHeld2 => ?_)
      clear hK K hHeld
      have hHeld := hHeld2
      clear hHeld2
      (try simp only [Act.put, Array.getInternal_eq_getElem, List.getElem_toArray, List.getElem_cons_succ, List.getElem_cons_zero, List.setIfInBounds_toArray, List.set_cons_zero, List.set_cons_succ])
      refine wpAnyH_take (i := 22) (v := ?_) rfl (by kernel_rfl) (by kernel_rfl) (by kernel_rfl) (fun _ _ _ h => h) (Or.inl ⟨by rfl, ?_⟩) (by assumption) ?_
      rotate_left
      · intro w hSw; (try dsimp only at hSw); go_simp; first | done | with_reducible rfl
      (try simp only [Act.put, Array.getInternal_eq_getElem, List.getElem_toArray, List.getElem_cons_succ, List.getElem_cons_zero, List.setIfInBounds_toArray, List.set_cons_zero, List.set_cons_succ])
      refine wpAnyH_take (i := 23) (v := ?_) rfl (by kernel_rfl) (by kernel_rfl) (by kernel_rfl) (fun _ _ _ h => h) (Or.inl ⟨by rfl, ?_⟩) (by assumption) ?_
      rotate_left
      · intro w hSw; (try dsimp only at hSw); go_simp; first | done | with_reducible rfl
      (try simp only [Act.put, Array.getInternal_eq_getElem, List.getElem_toArray, List.getElem_cons_succ, List.getElem_cons_zero, List.setIfInBounds_toArray, List.set_cons_zero, List.set_cons_succ])
      refine wpAnyH_done (by kernel_rfl) ?_ _
      go_wp2_with fail
      go_ret
      exact ⟨rfl, HB13.out⟩
end Go.Proofs.Ytkdplgcffdaoaaa
