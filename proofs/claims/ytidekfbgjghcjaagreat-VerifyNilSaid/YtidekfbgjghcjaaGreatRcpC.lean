/- Walk of receipt.Check (chapter 21); what right sealed records say of their receipts. -/
import Derived.Test.YtidekfbgjghcjaaGreatG10
import Derived.Test.YtidekfbgjghcjaaGreatSealS
import Derived.Test.YtidekfbgjghcjaaGreatG5
namespace Go.Proofs.YtidekfbgjghcjaaGreat
set_option linter.unusedSimpArgs false
set_option linter.unusedVariables false
open Go Go.RowKit
set_option linter.unusedVariables false

theorem flatR_at (ys : List Rcp) : ∀ (j : Nat) (y : Rcp), ys[j]? = some y → ∀ (i : Nat) (u : Value), y.cells[i]? = some u → (flatR ys)[j * 11 + i]? = some u := by
  induction ys with
  | nil => intro j y h; simp at h
  | cons a r ih =>
    intro j y h i u hu
    have ha : a.cells.length = 11 := rfl
    show (a.cells ++ flatR r)[_]? = _
    cases j with
    | zero =>
      simp at h
      subst h
      have := (List.getElem?_eq_some_iff.1 hu).1
      rw [List.getElem?_append_left (by omega), Nat.zero_mul, Nat.zero_add]
      exact hu
    | succ j =>
      rw [List.getElem?_append_right (by omega), ha, show (j + 1) * 11 + i - 11 = j * 11 + i by omega]
      exact ih j y (by simpa using h) i u hu
/-- What Check tells of a receipt. -/
def rchkS (root : ByteArray) (first : Int) (x : Rcp) : Int :=
  if ¬ root.size = 32 ∨ rcpOk x = false then 2
  else if x.r.epoch < first ∨ first < 0 then 2
  else if 4096 < x.r.epoch - first then 6
  else if tagC (atL root.data.toList first.toNat (x.r.epoch - first).toNat) x.was.data.toList x.seq x.r = x.tag.data.toList then 0 else 15
theorem rcpOk_rec {x : Rcp} (h : rcpOk x = true) : recOk x.r = true ∧ 0 ≤ x.r.epoch ∧ x.r.epoch ≤ 4294967295 := by
  simp only [rcpOk, Bool.and_eq_true, decide_eq_true_eq] at h
  have h1 := h.1.1.1.2
  have h2 := h1
  simp only [recOk, Bool.and_eq_true, decide_eq_true_eq] at h2
  exact ⟨h1, by omega, by omega⟩

set_option maxRecDepth 100000 in
set_option maxHeartbeats 2000000 in
theorem rcheck21_walk (root : ByteArray) (first : Int) (x : Rcp) (w : World) (hroot : x.r.root.size ≤ 1048576) (hname : x.r.name.size ≤ 1048576) (hf : Fits x.r.epoch) (hs : Fits x.seq) :
    Calls Tryz.prog 143 #[.string root, .int .i64 first, x.v] w fun e w' => e = .returned (.int .i64 (rchkS root first x)) ∧ Below w.heap.size w w' := by
  obtain ⟨res, hres⟩ : ∃ res, rchkS root first x = res := ⟨_, rfl⟩
  rw [hres]
  have HRES := Lib.hid hres; clear hres
  by_cases c1 : root.size = 32
  rotate_left
  · have d1 : ¬ (root.size : Int) = 32 := by omega
    have hr : res = 2 := by rw [← HRES.out]; unfold rchkS; rw [if_pos (.inl c1)]
    subst hr
    clear c1
    go_enter Tryz.func143, Tryz.ntmps143
    go_wp2_with ((with_reducible refine wpList_box_new 37 (.tmp 2) x.cells (some 5) ?hgd ?ho ?hd ?hx ?_); (case hgd => rfl); (case ho => rfl); (case hd => rfl); (case hx => rfl); (intro b w0 l0 B0 e0 z0))
    go_ret
    exact ⟨rfl, e0.mono l0⟩
  have d1 : (root.size : Int) = 32 := by omega
  have C1 := Lib.hid c1; clear c1
  cases hok : rcpOk x with
  | false =>
    have hr : res = 2 := by rw [← HRES.out]; unfold rchkS; rw [if_pos (.inr hok)]
    subst hr
    have HK := Lib.hid hok; clear hok
    go_enter Tryz.func143, Tryz.ntmps143
    go_wp2_with ((with_reducible refine wpList_box_new 37 (.tmp 2) x.cells (some 5) ?hgd ?ho ?hd ?hx ?_); (case hgd => rfl); (case ho => rfl); (case hd => rfl); (case hx => rfl); (intro b w0 l0 B0 e0 z0; have R0 := Lib.hid (RcpAt.blk B0); obtain ⟨a0, a1, a2, a3, a4, a5, a6, a7, a8, a9, aA⟩ := R0.out.cells_))
    refine (may21_walk x _ (by omega) hf hs).mono ?_
    rintro e w1 ⟨rfl, hb1⟩
    rw [HK.out]
    go_wp2_with fail
    go_ret
    exact ⟨rfl, (e0.mono l0).trans (hb1.mono (by have := e0.size; omega))⟩
  | true =>
    obtain ⟨g1, g2, g3⟩ := rcpOk_rec hok
    have HK := Lib.hid hok; clear hok
    go_enter Tryz.func143, Tryz.ntmps143
    go_wp2_with ((with_reducible refine wpList_box_new 37 (.tmp 2) x.cells (some 5) ?hgd ?ho ?hd ?hx ?_); (case hgd => rfl); (case ho => rfl); (case hd => rfl); (case hx => rfl); (intro b w0 l0 B0 e0 z0; have R0 := Lib.hid (RcpAt.blk B0); obtain ⟨a0, a1, a2, a3, a4, a5, a6, a7, a8, a9, aA⟩ := R0.out.cells_))
    clear a0 a1 a2 a3 a4 a5 a6 a7 a8 a9 aA
    refine (may21_walk x _ (by omega) hf hs).mono ?_
    rintro e w1 ⟨rfl, hb1⟩
    rw [HK.out]
    have R1 := Lib.hid (R0.out.below hb1 z0)
    have hbw := (e0.mono l0).trans (hb1.mono (by have := e0.size; omega))
    obtain ⟨_, _, a2, _, _, _, _, _, _, _, _⟩ := R1.out.cells_
    clear B0 R0 hb1 e0 l0
    have G1 := Lib.hid g1; clear g1
    go_wp2_with fail
    refine (at_walk root first x.r.epoch _).mono ?_
    rintro e w2 ⟨he, hb2⟩
    have hbw2 := hbw.trans (hb2.mono hbw.size)
    have hrl : root.data.toList.length = 32 := C1.out
    rcases he with ⟨c2, key, rfl, tk⟩ | ⟨c2, rfl⟩ | ⟨c2, rfl⟩
    · have R2 := Lib.hid (R1.out.below hb2 R1.out.lt)
      have hks : key.size = 32 := by rw [tk.size, atL_length]
      have HKS := Lib.hid hks
      have HTK := Lib.hid tk
      have hr : res = if tagC (atL root.data.toList first.toNat (x.r.epoch - first).toNat) x.was.data.toList x.seq x.r = x.tag.data.toList then 0 else 15 := by
        rw [← HRES.out]
        unfold rchkS
        rw [if_neg (by rw [HK.out]; have := C1.out; simp; omega), if_neg (by omega), if_neg (by omega)]
      have HRS := Lib.hid hr
      obtain ⟨a0, a1, a2', a3, a4, a5, a6, a7, a8, a9, aA⟩ := R2.out.cells_
      clear c2 tk hks hr hrl a2 HRES
      go_wp2_with fail
      clear a0 a1 a2' a3 a4 a5 a6 a7 a8 a9 aA
      refine (ctag_walk key x.was x.seq x.r _ hroot hname hf hs).mono ?_
      rintro e w3 ⟨he, hb3⟩
      obtain ⟨t, rfl, tt⟩ := he.yes ⟨HKS.out, rcpOk_said HK.out⟩
      have tt' : Txt t (tagC (atL root.data.toList first.toNat (x.r.epoch - first).toNat) x.was.data.toList x.seq x.r) := tt.cast (by rw [show key.data.toList = _ from HTK.out])
      obtain ⟨_, _, _, _, _, _, _, _, _, _, aA⟩ := (R2.out.below hb3 R2.out.lt).cells_
      have hbw3 := hbw2.trans (hb3.mono hbw2.size)
      by_cases hT : tagC (atL root.data.toList first.toNat (x.r.epoch - first).toNat) x.was.data.toList x.seq x.r = x.tag.data.toList
      · have e1 : (t.toList == x.tag.toList) = true := tt'.same (Txt.self _) hT
        have hres0 : res = 0 := by rw [HRS.out, if_pos hT]
        have HR0 := Lib.hid hres0
        clear tt tt' hT hres0 HRS
        go_wp2_with fail
        go_ret
        exact ⟨by rw [HR0.out]; rfl, hbw3⟩
      · have e1 : (t.toList == x.tag.toList) = false := tt'.other (Txt.self _) hT
        have hres0 : res = 15 := by rw [HRS.out, if_neg hT]
        have HR0 := Lib.hid hres0
        clear tt tt' hT hres0 HRS
        go_wp2_with fail
        go_ret
        exact ⟨by rw [HR0.out]; rfl, hbw3⟩
    · have hr : res = 2 := by
        rw [← HRES.out]
        unfold rchkS
        rw [if_neg (by rw [HK.out]; have := C1.out; simp; omega), if_pos (by omega)]
      have HR0 := Lib.hid hr
      clear c2 hr hrl
      go_wp2_with fail
      go_ret
      exact ⟨by rw [HR0.out]; rfl, hbw2⟩
    · have hr : res = 6 := by
        rw [← HRES.out]
        unfold rchkS
        rw [if_neg (by rw [HK.out]; have := C1.out; simp; omega), if_neg (by omega), if_pos (by omega)]
      have HR0 := Lib.hid hr
      clear c2 hr hrl
      go_wp2_with fail
      go_ret
      exact ⟨by rw [HR0.out]; rfl, hbw2⟩
end Go.Proofs.YtidekfbgjghcjaaGreat
