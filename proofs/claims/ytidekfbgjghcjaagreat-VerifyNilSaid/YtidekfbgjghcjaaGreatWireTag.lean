/- Walk of wire.Tag: a message's tag under any key, or the errno. Condition: the message is tame. -/
import Derived.Test.YtidekfbgjghcjaaGreatG14
import Derived.Test.YtidekfbgjghcjaaGreatWireD6
import Derived.Test.YtidekfbgjghcjaaGreatG5
import Derived.Test.YtidekfbgjghcjaaGreatLoad
namespace Go.Proofs.YtidekfbgjghcjaaGreat
set_option linter.unusedSimpArgs false
set_option linter.unusedVariables false
open Go Go.RowKit
set_option linter.unusedVariables false

/-- A message's tag. -/
def tagM (key : List UInt8) (m : MsgD) : List UInt8 := mac (madeL key [97, 115, 107] []) (msgSaid m)
/-- Has a message a tag under a key of so many bytes? -/
def tagMok (key : ByteArray) (m : MsgD) : Prop := key.size = 32 ∧ (taggedB m.kind && msgOk m) = true
set_option maxRecDepth 100000 in
set_option maxHeartbeats 4000000 in
theorem tag27_walk (key : ByteArray) (m : MsgD) (u l : Value) (w : World) (hu : PRow w u m.told.up) (hl : PRow w l m.told.left) (ht : MsgTame m) :
    Calls Tryz.prog 11 #[.string key, m.v u l] w fun e w' => Ends (tagMok key m) (tagM key.data.toList m) 2 e ∧ Below w.heap.size w w' := by
  have HU := Lib.hid (And.intro hu hl); clear hu hl
  go_enter Tryz.func11, Tryz.ntmps11
  go_wp2_with (first
    | ((with_reducible refine wpList_box_new 39 (.tmp 1) (m.cells u l) (some 3) ?hgd ?ho ?hd ?hx ?_); (case hgd => rfl); (case ho => rfl); (case hd => rfl); (case hx => rfl); (intro b0 w0 l0 B0 e0 z0))
    | fail)
  have HB0 := Lib.hid (show Below w.heap.size w w0 from e0.mono l0)
  have HX0 := Lib.hid B0
  clear e0 l0 B0 z0
  refine (askKey_walk key _).mono ?_
  rintro e w1 ⟨he, hb1⟩
  have HX1 := Lib.hid (HX0.out.below hb1 HX0.out.lt)
  have HB1 := Lib.hid (HB0.out.trans (hb1.mono HB0.out.size))
  clear hb1
  rcases he with ⟨h, k, rfl, tk⟩ | ⟨h, rfl⟩
  · have HH := Lib.hid h
    have TK := Lib.hid tk
    clear h tk
    go_wp2_with (first
      | ((with_reducible refine wpList_load_met 39 (.tmp 3) b0 0 (m.cells u l) _ (some 18) (HX1.out).range Tryz.underlying39 rfl sizeMsg ?hg ?ho ?hds ?hx ?_); (case ho => rfl); (case hg => rfl); (case hds => rfl); (case hx => rfl))
      | fail)
    refine (said27_walk m u l _ (HU.out.1.below HB1.out (Nat.le_refl _)) (HU.out.2.below HB1.out (Nat.le_refl _)) ht).mono ?_
    rintro e w2 ⟨⟨hok, s, rfl, ts⟩ | ⟨hno, rfl⟩, hb2⟩
    · have HO := Lib.hid hok
      have TS := Lib.hid ts
      have HB2 := Lib.hid (HB1.out.trans (hb2.mono HB1.out.size))
      clear hok ts hb2
      go_wp2_with fail
      refine (mac_walk k s _ (by rw [TK.out.size, madeL_length]; omega) (by
        have h1 := HO.out
        rw [Bool.and_eq_true] at h1
        have h2 := msgSaid_len h1.2
        rw [TS.out.size]; omega)).mono ?_
      rintro e w3 ⟨r, rfl, tr, hb3⟩
      have TR := Lib.hid tr
      have HB3 := Lib.hid (HB2.out.trans (hb3.mono HB2.out.size))
      clear tr hb3
      go_wp2_with fail
      go_ret2
      refine ⟨.inl ⟨⟨HH.out, HO.out⟩, r, rfl, TR.out.cast ?_⟩, HB3.out⟩
      rw [show k.data.toList = _ from TK.out, show s.data.toList = _ from TS.out]; rfl
    · have HO := Lib.hid hno
      have HB2 := Lib.hid (HB1.out.trans (hb2.mono HB1.out.size))
      clear hno hb2
      go_wp2_with fail
      go_ret2
      exact ⟨.inr ⟨fun h => HO.out h.2, rfl⟩, HB2.out⟩
  · have HH := Lib.hid h
    clear h
    go_wp2_with fail
    go_ret2
    exact ⟨.inr ⟨fun h => HH.out h.1, rfl⟩, HB1.out⟩
end Go.Proofs.YtidekfbgjghcjaaGreat
