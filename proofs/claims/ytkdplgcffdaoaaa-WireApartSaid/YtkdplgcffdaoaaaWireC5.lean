/- Walks of wire.Put, wire.Said; the example of chapter 27. -/
import Derived.Test.YtkdplgcffdaoaaaWireC4
namespace Go.Proofs.Ytkdplgcffdaoaaa
set_option linter.unusedSimpArgs false
set_option linter.unusedVariables false
open Go Go.RowKit
set_option linter.unusedVariables false

theorem chkM_yes {m : MsgD} (h : msgOk m = true) : chkM m = 0 := by unfold chkM; rw [h]; rfl
theorem chkM_no {m : MsgD} (h : msgOk m = false) : chkM m = 2 := by unfold chkM; rw [h]; rfl
set_option maxRecDepth 100000 in
set_option maxHeartbeats 4000000 in
theorem put27_walk (m : MsgD) (u l : Value) (w : World) (hu : PRow w u m.told.up) (hl : PRow w l m.told.left) (ht : MsgTame m) :
    Calls Try.prog 11 #[m.v u l] w fun e w' => Ends (msgOk m = true) (msgPut m) 2 e ∧ Below w.heap.size w w' := by
  have HU := Lib.hid hu; have HL := Lib.hid hl
  go_enter Try.func11, Try.ntmps11
  go_wp2_with (first
    | ((with_reducible refine wpList_box_new 39 (.tmp 0) (m.cells u l) (some 1) ?hgd ?ho ?hd ?hx ?_); (case hgd => rfl); (case ho => rfl); (case hd => rfl); (case hx => rfl); (intro b w0 l0 B0 e0 z0))
    | ((with_reducible refine wpList_load_met 39 (.tmp 1) b 0 (m.cells u l) _ (some 5) B0.range Try.underlying39 rfl sizeMsg ?hg ?ho ?hds ?hx ?_); (case hg => rfl); (case ho => rfl); (case hds => rfl); (case hx => rfl))
    | fail)
  have hb0 : Below w.heap.size w w0 := e0.mono l0
  refine (check27_walk m u l _ (HU.out.below hb0 (Nat.le_refl _)) (HL.out.below hb0 (Nat.le_refl _)) ht).mono ?_
  rintro e w1 ⟨rfl, hb1⟩
  have B1 := Lib.hid (B0.below hb1 B0.lt)
  have HB := Lib.hid (hb0.trans (hb1.mono hb0.size))
  clear B0 e0 z0 hb0 hb1 hu hl
  cases hok : msgOk m with
  | false =>
    rw [chkM_no hok]
    go_wp2_with fail
    go_ret2
    exact ⟨.inr ⟨by rw [hok]; simp, rfl⟩, HB.out⟩
  | true =>
    rw [chkM_yes hok]
    go_wp2_with (first
      | ((with_reducible refine wpList_load_met 39 (.tmp 1) b 0 (m.cells u l) _ (some 10) B1.out.range Try.underlying39 rfl sizeMsg ?hg ?ho ?hds ?hx ?_); (case hg => rfl); (case ho => rfl); (case hds => rfl); (case hx => rfl))
      | fail)
    refine (written_walk m u l false _ (HU.out.below HB.out (Nat.le_refl _)) (HL.out.below HB.out (Nat.le_refl _)) hok).mono ?_
    rintro e w2 ⟨r, rfl, tr, hb2⟩
    have HB2 := Lib.hid (HB.out.trans (hb2.mono HB.out.size))
    have TR := Lib.hid tr
    clear tr hb2
    go_wp2_with fail
    go_ret2
    exact ⟨.inl ⟨hok, r, rfl, TR.out⟩, HB2.out⟩
set_option maxRecDepth 100000 in
set_option maxHeartbeats 4000000 in
theorem said27_walk (m : MsgD) (u l : Value) (w : World) (hu : PRow w u m.told.up) (hl : PRow w l m.told.left) (ht : MsgTame m) :
    Calls Try.prog 8 #[m.v u l] w fun e w' => Ends ((taggedB m.kind && msgOk m) = true) (msgSaid m) 2 e ∧ Below w.heap.size w w' := by
  have HU := Lib.hid hu; have HL := Lib.hid hl
  go_enter Try.func8, Try.ntmps8
  go_wp2_with ((with_reducible refine wpList_box_new 39 (.tmp 0) (m.cells u l) (some 1) ?hgd ?ho ?hd ?hx ?_); (case hgd => rfl); (case ho => rfl); (case hd => rfl); (case hx => rfl); (intro b w0 l0 B0 e0 z0; have k0 := B0.cell (i := 0) rfl))
  have hb0 : Below w.heap.size w w0 := e0.mono l0
  refine (tagged_walk _ _).mono ?_
  rintro e wt ⟨rfl, rfl⟩
  cases htg : taggedB m.kind with
  | false =>
    go_wp2_with fail
    go_ret2
    exact ⟨.inr ⟨by rw [htg]; simp, rfl⟩, hb0⟩
  | true =>
    go_wp2_with ((with_reducible refine wpList_load_met 39 (.tmp 1) b 0 (m.cells u l) _ (some 9) B0.range Try.underlying39 rfl sizeMsg ?hg ?ho ?hds ?hx ?_); (case hg => rfl); (case ho => rfl); (case hds => rfl); (case hx => rfl))
    refine (check27_walk m u l _ (HU.out.below hb0 (Nat.le_refl _)) (HL.out.below hb0 (Nat.le_refl _)) ht).mono ?_
    rintro e w1 ⟨rfl, hb1⟩
    have B1 := Lib.hid (B0.below hb1 B0.lt)
    have HB := Lib.hid (hb0.trans (hb1.mono hb0.size))
    clear B0 e0 z0 hb0 hb1 hu hl k0
    cases hok : msgOk m with
    | false =>
      rw [chkM_no hok]
      go_wp2_with fail
      go_ret2
      exact ⟨.inr ⟨by rw [hok]; simp, rfl⟩, HB.out⟩
    | true =>
      rw [chkM_yes hok]
      go_wp2_with (first
        | ((with_reducible refine wpList_load_met 39 (.tmp 1) b 0 (m.cells u l) _ (some 13) B1.out.range Try.underlying39 rfl sizeMsg ?hg ?ho ?hds ?hx ?_); (case hg => rfl); (case ho => rfl); (case hds => rfl); (case hx => rfl))
        | fail)
      refine (written_walk m u l true _ (HU.out.below HB.out (Nat.le_refl _)) (HL.out.below HB.out (Nat.le_refl _)) hok).mono ?_
      rintro e w2 ⟨r, rfl, tr, hb2⟩
      have HB2 := Lib.hid (HB.out.trans (hb2.mono HB.out.size))
      have TR := Lib.hid tr
      clear tr hb2
      go_wp2_with fail
      go_ret2
      exact ⟨.inl ⟨by rw [htg, hok]; rfl, r, rfl, TR.out⟩, HB2.out⟩
/-- The nonce of the chapter's example. -/
def exNonce : ByteArray := ⟨#[48, 49, 50, 51, 52, 53, 54, 55, 56, 57, 97, 98, 99, 100, 101, 102, 48, 49, 50, 51, 52, 53, 54, 55, 56, 57, 97, 98, 99, 100, 101, 102]⟩
def exMsg : MsgD := { MsgD.zero with kind := 5, nonce := exNonce, seq := 258 }
theorem exMsg_ok : msgOk exMsg = true := by decide
theorem exMsg_put : msgPut exMsg = 5 :: exNonce.data.toList ++ [0, 0, 1, 2] := by decide
theorem exMsg_tame : MsgTame exMsg := ⟨by decide, by decide, by decide, by decide, by decide, by decide, by unfold Fits; decide, by decide, by decide, by unfold Fits; decide, by unfold Fits; decide⟩
set_option maxRecDepth 100000 in
set_option maxHeartbeats 4000000 in
theorem alive27 (w : World) :
    Calls Try.prog 7 #[] w fun e w' => e = .returned (.bool true) ∧ Below w.heap.size w w' := by
  go_enter Try.func7, Try.ntmps7
  go_wp2_with fail
  refine (put27_walk exMsg (.slice none 0 0) (.slice none 0 0) _ (PathIn.nil _ _) (PathIn.nil _ _) exMsg_tame).mono ?_
  rintro e w1 ⟨he, hb⟩
  obtain ⟨r, rfl, tr⟩ := he.yes exMsg_ok
  rw [exMsg_put] at tr
  have h1 := tr.is (l' := 5 :: exNonce.data.toList ++ [0, 0, 1, 2]) rfl
  have h2 : (r.toList == [5, 48, 49, 50, 51, 52, 53, 54, 55, 56, 57, 97, 98, 99, 100, 101, 102, 48, 49, 50, 51, 52, 53, 54, 55, 56, 57, 97, 98, 99, 100, 101, 102, 0, 0, 1, 2]) = true := h1
  clear he tr h1
  go_wp2_with fail
  go_ret
  exact ⟨rfl, hb⟩
end Go.Proofs.Ytkdplgcffdaoaaa
