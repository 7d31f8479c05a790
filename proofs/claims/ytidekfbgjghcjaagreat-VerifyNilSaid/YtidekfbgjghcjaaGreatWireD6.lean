/- Walk of the documents' Put of a message (chapter 27). -/
import Derived.Test.YtidekfbgjghcjaaGreatWireD5
namespace Go.Proofs.YtidekfbgjghcjaaGreat
set_option linter.unusedSimpArgs false
set_option linter.unusedVariables false
open Go Go.RowKit
set_option linter.unusedVariables false

theorem toldL_len {t : ToldD} (h : toldOk t = true) : (toldL t).length ≤ 25000 := by
  have ht := (told_ok t).1 h
  have hto := ht.2
  simp only [rtoldOk, Bool.and_eq_true, decide_eq_true_eq] at hto
  obtain ⟨⟨⟨⟨⟨⟨g1, g2⟩, g3⟩, g4⟩, g5⟩, g6⟩, ⟨⟨g7, g8⟩, g9⟩, g10⟩ := hto
  have h1 := leafL_len g5
  have h2 := leafL_len g6
  have h3 := pathL_len g7 g9
  have h4 := pathL_len g8 g10
  have h5 : (textL t.cipher.data.toList).length = 4 + t.cipher.size := textL_length _
  unfold toldL
  split
  · simp [askBL, flagL, beBytes_length]
  · simp only [List.length_append, askBL, flagL, beBytes_length]; omega
theorem restL_len {m : MsgD} (h : msgOk m = true) : (restL m).length ≤ 25000 := by
  have hs := (msgOk_facts h).says
  have hl : m.last.data.toList.length ≤ 32 := (msgOk_facts h).last
  unfold restL
  unfold saysOk at hs
  split
  · simp [beBytes_length]
  next h1 =>
  split
  · simp only [List.length_append, beBytes_length]; omega
  next h4 =>
  split
  · simp [beBytes_length]
  next h5 =>
  split
  · next h6 =>
    simp [h6] at hs
    have := recPut_length hs.1.2
    have h2 : m.sld.tag.data.toList.length = m.sld.tag.size := rfl
    simp only [List.length_append, beBytes_length]; omega
  next h6 =>
  split
  · simp [askBL, beBytes_length]
  next h7 =>
  split
  · next h8 => simp [h8] at hs; exact toldL_len hs
  next h8 =>
  split
  · next h10 => simp [h10] at hs; have := rcpPut_length hs; omega
  · simp
theorem msgSaid_len {m : MsgD} (h : msgOk m = true) : (msgSaid m).length ≤ 26000 := by
  have h1 := restL_len h
  have h2 : m.nonce.data.toList.length ≤ 32 := (msgOk_facts h).nonce
  unfold msgSaid
  simp only [List.length_append, beBytes_length]; omega
set_option maxRecDepth 100000 in
set_option maxHeartbeats 4000000 in
theorem rput27_walk (m : MsgD) (u l : Value) (w : World) (hu : PRow w u m.told.up) (hl : PRow w l m.told.left) (hul : Long m.told.up.length) (hll : Long m.told.left.length) :
    Calls Tryz.prog 10 #[m.v u l] w fun e w' => EndsB (msgOk m = true) (msgPut m) e ∧ Below w.heap.size w w' := by
  have RU : Hid (∀ w', Below w.heap.size w w' → PRow w' u m.told.up ∧ PRow w' l m.told.left) := Lib.hid (fun w' hb => ⟨hu.below hb (Nat.le_refl _), hl.below hb (Nat.le_refl _)⟩)
  clear hu hl
  cases hok : msgOk m with
  | false =>
    have HO := Lib.hid (show rightM m = false by rw [rightM_eq]; exact hok)
    clear hok
    go_enter Tryz.func10, Tryz.ntmps10
    go_wp2_with (first
      | ((with_reducible refine wpList_box_new 39 (.tmp 0) (m.cells u l) (some 1) ?hgd ?ho ?hd ?hx ?_); (case hgd => rfl); (case ho => rfl); (case hd => rfl); (case hx => rfl); (intro b w0 l0 B0 e0 z0))
      | ((with_reducible refine wpList_load_met 39 (.tmp 1) b 0 (m.cells u l) _ (some 4) B0.range Tryz.underlying39 rfl sizeMsg ?hg ?ho ?hds ?hx ?_); (case ho => rfl); (case hg => rfl); (case hds => rfl); (case hx => rfl))
      | fail)
    have HB0 : Below w.heap.size w w0 := e0.mono l0
    refine (right27_walk m u l _ (RU.out _ HB0).1 (RU.out _ HB0).2 hul hll).mono ?_
    rintro e w1 ⟨he, hb1⟩
    rw [HO.out] at he
    subst he
    go_wp2_with fail
    go_ret2
    exact ⟨.inr ⟨by decide, rfl⟩, HB0.trans (hb1.mono HB0.size)⟩
  | true =>
    have HO := Lib.hid (show rightM m = true by rw [rightM_eq]; exact hok)
    have HOK := Lib.hid hok
    have hsl := msgSaid_len hok
    have htl := (msgOk_facts hok).tag
    clear hok
    go_enter Tryz.func10, Tryz.ntmps10
    go_wp2_with (first
      | ((with_reducible refine wpList_box_new 39 (.tmp 0) (m.cells u l) (some 1) ?hgd ?ho ?hd ?hx ?_); (case hgd => rfl); (case ho => rfl); (case hd => rfl); (case hx => rfl); (intro b w0 l0 B0 e0 z0))
      | ((with_reducible refine wpList_load_met 39 (.tmp 1) b 0 (m.cells u l) _ (some 4) B0.range Tryz.underlying39 rfl sizeMsg ?hg ?ho ?hds ?hx ?_); (case ho => rfl); (case hg => rfl); (case hds => rfl); (case hx => rfl))
      | fail)
    have HB0 : Below w.heap.size w w0 := e0.mono l0
    refine (right27_walk m u l _ (RU.out _ HB0).1 (RU.out _ HB0).2 hul hll).mono ?_
    rintro e w1 ⟨he, hb1⟩
    rw [HO.out] at he
    subst he
    have HX := Lib.hid ((B0.below hb1 B0.lt).drew)
    have HB := Lib.hid ((HB0.trans (hb1.mono HB0.size)).drew)
    clear HB0 hb1 B0 e0 l0 z0
    go_wp2_with fail
    have hS0 : (fun w' => w'.rangeAt b 0 (m.cells u l) ∧ w'.cell? ⟨b, 4, none⟩ = some (.string m.tag)) w1.drew := ⟨HX.out.range, HX.out.cell (i := 4) rfl⟩
    refine wp_region_held_drew (S := fun w' => w'.rangeAt b 0 (m.cells u l) ∧ w'.cell? ⟨b, 4, none⟩ = some (.string m.tag)) (by kernel_rfl) (hS0) (fun hHeld => ?_)
    clear hS0
    refine wpAnyH_take (i := 0) (v := .agg (m.cells u l).toArray) rfl (by kernel_rfl) (by kernel_rfl) (by kernel_rfl) (fun _ _ _ h => h) (yieldsIf_load_mid (by rfl) 39 (.tmp 1) rfl b 0 rfl (m.cells u l) _ (fun w h => h.1) Tryz.underlying39 rfl sizeMsg) (by assumption) ?_
    (try simp only [Act.put, Array.getInternal_eq_getElem, List.getElem_toArray, List.getElem_cons_succ, List.getElem_cons_zero, List.setIfInBounds_toArray, List.set_cons_zero, List.set_cons_succ])
    refine wpAnyH_take (i := 2) (v := ?_) rfl (by kernel_rfl) (by kernel_rfl) (by kernel_rfl) (fun _ _ _ h => h) (Or.inl ⟨by rfl, ?_⟩) (by assumption) ?_
    rotate_left
    · intro w hSw; (try dsimp only at hSw); go_simp; first | done | with_reducible rfl
    (try simp only [Act.put, Array.getInternal_eq_getElem, List.getElem_toArray, List.getElem_cons_succ, List.getElem_cons_zero, List.setIfInBounds_toArray, List.set_cons_zero, List.set_cons_succ])
    refine wpAnyH_take (i := 3) (v := ?_) rfl (by kernel_rfl) (by kernel_rfl) (by kernel_rfl) (fun _ _ _ h => h) (Or.inl ⟨by rfl, ?_⟩) (by assumption) ?_
    rotate_left
    · intro w hSw; (try dsimp only at hSw); go_simp; first | done | with_reducible rfl
    (try simp only [Act.put, Array.getInternal_eq_getElem, List.getElem_toArray, List.getElem_cons_succ, List.getElem_cons_zero, List.setIfInBounds_toArray, List.set_cons_zero, List.set_cons_succ])
    refine wpAnyH_ready (rs := [1]) (by kernel_rfl) (by simp) ?_
    refine AllReadyH.cons rfl (fun K hK => ?_) AllReadyH.nil
    go_simp
    refine (rsaid27_walk m u l _ (RU.out _ HB.out).1 (RU.out _ HB.out).2 HOK.out).mono ?_
    rintro e w2 ⟨r, rfl, t2, hb2⟩
    have HB2 := Lib.hid (HB.out.trans (hb2.mono HB.out.size))
    have HX2 := Lib.hid (HX.out.below hb2 HX.out.lt)
    have hr2 : r.size ≤ 26000 := by rw [t2.size]; exact hsl
    have TR := Lib.hid t2
    have hg : ¬ 9223372036854775807 < r.size + m.tag.size := by omega
    clear t2 hb2
    (try go_wp2_with fail)
    refine hK.out _ _ (⟨HX2.out.range, HX2.out.cell (i := 4) rfl⟩) (fun hHeld2 => ?_)
    clear hK K hHeld
    have hHeld := hHeld2
    clear hHeld2
    (try simp only [Act.put, Array.getInternal_eq_getElem, List.getElem_toArray, List.getElem_cons_succ, List.getElem_cons_zero, List.setIfInBounds_toArray, List.set_cons_zero, List.set_cons_succ])
    refine wpAnyH_take (i := 4) (v := ?_) rfl (by kernel_rfl) (by kernel_rfl) (by kernel_rfl) (fun _ _ _ h => h) (Or.inl ⟨by rfl, ?_⟩) (by assumption) ?_
    rotate_left
    · intro w hSw; (try dsimp only at hSw); go_simp; first | done | with_reducible rfl
    (try simp only [Act.put, Array.getInternal_eq_getElem, List.getElem_toArray, List.getElem_cons_succ, List.getElem_cons_zero, List.setIfInBounds_toArray, List.set_cons_zero, List.set_cons_succ])
    refine wpAnyH_take (i := 5) (v := ?_) rfl (by kernel_rfl) (by kernel_rfl) (by kernel_rfl) (fun _ _ _ h => h) (Or.inl ⟨by rfl, ?_⟩) (by assumption) ?_
    rotate_left
    · intro w hSw; (try dsimp only at hSw); go_simp; first | done | with_reducible rfl
    (try simp only [Act.put, Array.getInternal_eq_getElem, List.getElem_toArray, List.getElem_cons_succ, List.getElem_cons_zero, List.setIfInBounds_toArray, List.set_cons_zero, List.set_cons_succ])
    refine wpAnyH_take (i := 6) (v := ?_) rfl (by kernel_rfl) (by kernel_rfl) (by kernel_rfl) (fun _ _ _ h => h) (Or.inl ⟨by rfl, ?_⟩) (by assumption) ?_
    rotate_left
    · intro w hSw; (try dsimp only at hSw); go_simp; first | done | with_reducible rfl
    (try simp only [Act.put, Array.getInternal_eq_getElem, List.getElem_toArray, List.getElem_cons_succ, List.getElem_cons_zero, List.setIfInBounds_toArray, List.set_cons_zero, List.set_cons_succ])
    refine wpAnyH_done (by kernel_rfl) ?_ _
    go_wp2_with fail
    go_ret2
    exact ⟨.inl ⟨by first | trivial | rfl, _, rfl, TR.out.append (Txt.self m.tag)⟩, HB2.out⟩
end Go.Proofs.YtidekfbgjghcjaaGreat
