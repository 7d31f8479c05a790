/- Walk of the documents' Tag of a message (chapter 27). Condition: the rows of texts are no longer than a machine takes. -/
import Derived.Test.YtidekfbgjghcjaaGreatWireTag
import Derived.Test.YtidekfbgjghcjaaGreatWireR
import Derived.Test.YtidekfbgjghcjaaGreatG5
import Derived.Test.YtidekfbgjghcjaaGreatG4
namespace Go.Proofs.YtidekfbgjghcjaaGreat
set_option linter.unusedSimpArgs false
set_option linter.unusedVariables false
open Go Go.RowKit
set_option linter.unusedVariables false

set_option maxRecDepth 100000 in
set_option maxHeartbeats 4000000 in
theorem rtag27_walk (key : ByteArray) (m : MsgD) (u l : Value) (w : World) (hu : PRow w u m.told.up) (hl : PRow w l m.told.left) (hul : Long m.told.up.length) (hll : Long m.told.left.length) :
    Calls Tryz.prog 12 #[.string key, m.v u l] w fun e w' => EndsB (tagMok key m) (tagM key.data.toList m) e ∧ Below w.heap.size w w' := by
  have HU := Lib.hid (And.intro hu hl)
  have HL := Lib.hid (And.intro hul hll)
  clear hu hl hul hll
  go_enter Tryz.func12, Tryz.ntmps12
  go_wp2_with (first
    | ((with_reducible refine wpList_box_new 39 (.tmp 1) (m.cells u l) (some 3) ?hgd ?ho ?hd ?hx ?_); (case hgd => rfl); (case ho => rfl); (case hd => rfl); (case hx => rfl); (intro b0 w0 l0 B0 e0 z0))
    | fail)
  have HB0 := Lib.hid (show Below w.heap.size w w0 from e0.mono l0)
  have HX0 := Lib.hid B0
  clear e0 l0 B0 z0
  refine (rmade_walk key askB _ [] _ (IntRow.nil _) (fun j x h => by simp at h) (by simp)).mono ?_
  rintro e w1 ⟨he, hb1⟩
  have HX1 := Lib.hid (HX0.out.below hb1 HX0.out.lt)
  have HB1 := Lib.hid (HB0.out.trans (hb1.mono HB0.out.size))
  clear hb1
  rcases he with ⟨h, k, rfl, tk⟩ | ⟨h, rfl⟩
  rotate_left
  · have HH := Lib.hid h
    clear h
    go_wp2_with fail
    go_ret2
    exact ⟨.inr ⟨fun h => HH.out ⟨h.1, by decide⟩, rfl⟩, HB1.out⟩
  have HH := Lib.hid h
  have TK := Lib.hid tk
  clear h tk
  by_cases k3 : m.kind = 3
  · have HK := Lib.hid k3
    have c0 : w1.cell? ⟨b0, 0, none⟩ = some (.int .i64 3) := by have := HX1.out.cell (i := 0) rfl; rw [this, ← k3]
    clear k3
    cases hok : msgOk m with
    | false =>
      have HO := Lib.hid hok
      have HR := Lib.hid (show rightM m = false by rw [rightM_eq]; exact hok)
      clear hok
      go_wp2_with (first
        | ((with_reducible refine wpList_load_met 39 (.tmp 3) b0 0 (m.cells u l) _ (some 26) (HX1.out).range Tryz.underlying39 rfl sizeMsg ?hg ?ho ?hds ?hx ?_); (case ho => rfl); (case hg => rfl); (case hds => rfl); (case hx => rfl))
        | fail)
      refine (right27_walk m u l _ (HU.out.1.below HB1.out (Nat.le_refl _)) (HU.out.2.below HB1.out (Nat.le_refl _)) HL.out.1 HL.out.2).mono ?_
      rintro e w2 ⟨he, hb2⟩
      rw [HR.out] at he
      subst he
      have HX2 := Lib.hid (HX1.out.below hb2 HX1.out.lt)
      have HB2 := Lib.hid (HB1.out.trans (hb2.mono HB1.out.size))
      clear hb2
      go_wp2_with fail
      go_ret2
      exact ⟨.inr ⟨fun h => by have := h.2; rw [HO.out] at this; simp at this, rfl⟩, HB2.out⟩
    | true =>
      have HO := Lib.hid hok
      have HR := Lib.hid (show rightM m = true by rw [rightM_eq]; exact hok)
      clear hok
      go_wp2_with (first
        | ((with_reducible refine wpList_load_met 39 (.tmp 3) b0 0 (m.cells u l) _ (some 26) (HX1.out).range Tryz.underlying39 rfl sizeMsg ?hg ?ho ?hds ?hx ?_); (case ho => rfl); (case hg => rfl); (case hds => rfl); (case hx => rfl))
        | fail)
      refine (right27_walk m u l _ (HU.out.1.below HB1.out (Nat.le_refl _)) (HU.out.2.below HB1.out (Nat.le_refl _)) HL.out.1 HL.out.2).mono ?_
      rintro e w2 ⟨he, hb2⟩
      rw [HR.out] at he
      subst he
      have HX2 := Lib.hid (HX1.out.below hb2 HX1.out.lt)
      have HB2 := Lib.hid (HB1.out.trans (hb2.mono HB1.out.size))
      clear hb2
      go_wp2_with (first
        | ((with_reducible refine wpList_load_met 39 (.tmp 3) b0 0 (m.cells u l) _ (some 31) (HX2.out).range Tryz.underlying39 rfl sizeMsg ?hg ?ho ?hds ?hx ?_); (case ho => rfl); (case hg => rfl); (case hds => rfl); (case hx => rfl))
        | fail)
      refine (rsaid27_walk m u l _ (HU.out.1.below HB2.out (Nat.le_refl _)) (HU.out.2.below HB2.out (Nat.le_refl _)) HO.out).mono ?_
      rintro e w3 ⟨s, rfl, ts, hb3⟩
      have TS := Lib.hid ts
      have HB3 := Lib.hid (HB2.out.trans (hb3.mono HB2.out.size))
      clear ts hb3
      go_wp2_with fail
      refine (rmac_walk k s _ (by rw [TK.out.size, madeL_length]; omega) (by
        have h2 := msgSaid_len HO.out
        rw [TS.out.size]; omega)).mono ?_
      rintro e w4 ⟨r, rfl, tr, hb4⟩
      have TR := Lib.hid tr
      have HB4 := Lib.hid (HB3.out.trans (hb4.mono HB3.out.size))
      clear tr hb4
      go_wp2_with fail
      go_ret2
      refine ⟨.inl ⟨⟨HH.out.1, by rw [HO.out]; unfold taggedB; rw [HK.out]; rfl⟩, r, rfl, TR.out.cast ?_⟩, HB4.out⟩
      rw [show k.data.toList = _ from TK.out, show s.data.toList = _ from TS.out]; rfl
  by_cases k4 : m.kind = 4
  · have HK := Lib.hid k4
    have c0 : w1.cell? ⟨b0, 0, none⟩ = some (.int .i64 4) := by have := HX1.out.cell (i := 0) rfl; rw [this, ← k4]
    clear k3 k4
    cases hok : msgOk m with
    | false =>
      have HO := Lib.hid hok
      have HR := Lib.hid (show rightM m = false by rw [rightM_eq]; exact hok)
      clear hok
      go_wp2_with (first
        | ((with_reducible refine wpList_load_met 39 (.tmp 3) b0 0 (m.cells u l) _ (some 26) (HX1.out).range Tryz.underlying39 rfl sizeMsg ?hg ?ho ?hds ?hx ?_); (case ho => rfl); (case hg => rfl); (case hds => rfl); (case hx => rfl))
        | fail)
      refine (right27_walk m u l _ (HU.out.1.below HB1.out (Nat.le_refl _)) (HU.out.2.below HB1.out (Nat.le_refl _)) HL.out.1 HL.out.2).mono ?_
      rintro e w2 ⟨he, hb2⟩
      rw [HR.out] at he
      subst he
      have HX2 := Lib.hid (HX1.out.below hb2 HX1.out.lt)
      have HB2 := Lib.hid (HB1.out.trans (hb2.mono HB1.out.size))
      clear hb2
      go_wp2_with fail
      go_ret2
      exact ⟨.inr ⟨fun h => by have := h.2; rw [HO.out] at this; simp at this, rfl⟩, HB2.out⟩
    | true =>
      have HO := Lib.hid hok
      have HR := Lib.hid (show rightM m = true by rw [rightM_eq]; exact hok)
      clear hok
      go_wp2_with (first
        | ((with_reducible refine wpList_load_met 39 (.tmp 3) b0 0 (m.cells u l) _ (some 26) (HX1.out).range Tryz.underlying39 rfl sizeMsg ?hg ?ho ?hds ?hx ?_); (case ho => rfl); (case hg => rfl); (case hds => rfl); (case hx => rfl))
        | fail)
      refine (right27_walk m u l _ (HU.out.1.below HB1.out (Nat.le_refl _)) (HU.out.2.below HB1.out (Nat.le_refl _)) HL.out.1 HL.out.2).mono ?_
      rintro e w2 ⟨he, hb2⟩
      rw [HR.out] at he
      subst he
      have HX2 := Lib.hid (HX1.out.below hb2 HX1.out.lt)
      have HB2 := Lib.hid (HB1.out.trans (hb2.mono HB1.out.size))
      clear hb2
      go_wp2_with (first
        | ((with_reducible refine wpList_load_met 39 (.tmp 3) b0 0 (m.cells u l) _ (some 31) (HX2.out).range Tryz.underlying39 rfl sizeMsg ?hg ?ho ?hds ?hx ?_); (case ho => rfl); (case hg => rfl); (case hds => rfl); (case hx => rfl))
        | fail)
      refine (rsaid27_walk m u l _ (HU.out.1.below HB2.out (Nat.le_refl _)) (HU.out.2.below HB2.out (Nat.le_refl _)) HO.out).mono ?_
      rintro e w3 ⟨s, rfl, ts, hb3⟩
      have TS := Lib.hid ts
      have HB3 := Lib.hid (HB2.out.trans (hb3.mono HB2.out.size))
      clear ts hb3
      go_wp2_with fail
      refine (rmac_walk k s _ (by rw [TK.out.size, madeL_length]; omega) (by
        have h2 := msgSaid_len HO.out
        rw [TS.out.size]; omega)).mono ?_
      rintro e w4 ⟨r, rfl, tr, hb4⟩
      have TR := Lib.hid tr
      have HB4 := Lib.hid (HB3.out.trans (hb4.mono HB3.out.size))
      clear tr hb4
      go_wp2_with fail
      go_ret2
      refine ⟨.inl ⟨⟨HH.out.1, by rw [HO.out]; unfold taggedB; rw [HK.out]; rfl⟩, r, rfl, TR.out.cast ?_⟩, HB4.out⟩
      rw [show k.data.toList = _ from TK.out, show s.data.toList = _ from TS.out]; rfl
  have c0 : w1.cell? ⟨b0, 0, none⟩ = some (.int .i64 m.kind) := HX1.out.cell (i := 0) rfl
  have HK := Lib.hid (And.intro k3 k4)
  go_wp2_with fail
  go_ret2
  refine ⟨.inr ⟨fun h => ?_, rfl⟩, HB1.out⟩
  have := h.2
  unfold taggedB at this
  simp [HK.out.1, HK.out.2] at this
end Go.Proofs.YtidekfbgjghcjaaGreat
