/- Walk of WirePuts: for every message and every key the law returns true. No condition. -/
import Derived.Test.YtidekfbgjghcjaaGreatWireRTag
import Derived.Test.YtidekfbgjghcjaaGreatG14
import Derived.Test.YtidekfbgjghcjaaGreatWireD6
import Derived.Test.YtidekfbgjghcjaaGreatG15
namespace Go.Proofs.YtidekfbgjghcjaaGreat
set_option linter.unusedSimpArgs false
set_option linter.unusedVariables false
open Go Go.RowKit
set_option linter.unusedVariables false

theorem MsgFits.past {w w' : World} {m : MsgD} {u l : Value} (h : MsgFits w m u l) (hb : Below w.heap.size w w') : MsgFits w' m u l :=
  ⟨h.kind, h.epoch, h.seq, h.nonce, h.tag, h.last, h.sld, h.rcp, h.at_, h.slot, h.up.below hb (Nat.le_refl _), h.left.below hb (Nat.le_refl _), h.upl, h.leftl⟩
set_option maxRecDepth 100000 in
set_option maxHeartbeats 16000000 in
theorem wirePuts_walk (m : MsgD) (u l : Value) (key : ByteArray) (w : World) (fm : MsgFits w m u l) :
    Calls Tryz.prog 3 #[m.v u l, .string key] w fun e w' => e = .returned (.bool true) ∧ Below w.heap.size w w' := by
  have HF := Lib.hid fm; clear fm
  go_enter Tryz.func3, Tryz.ntmps3
  go_wp2_with (first
    | ((with_reducible refine wpList_box_new 39 (.tmp 0) (m.cells u l) (some 2) ?hgd ?ho ?hd ?hx ?_); (case hgd => rfl); (case ho => rfl); (case hd => rfl); (case hx => rfl); (intro b0 w0 l0 B0 e0 z0))
    | ((with_reducible refine wpList_load_met 39 (.tmp 2) b0 0 (m.cells u l) _ (some 16) (B0).range Tryz.underlying39 rfl sizeMsg ?hg ?ho ?hds ?hx ?_); (case ho => rfl); (case hg => rfl); (case hds => rfl); (case hx => rfl))
    | fail)
  have HB0 := Lib.hid (show Below w.heap.size w w0 from e0.mono l0)
  have HX0 := Lib.hid B0
  clear e0 l0 z0 B0
  refine (few27_walk m u l _ (HF.out.past HB0.out)).mono ?_
  rintro e w1 ⟨hq, hb1⟩
  obtain ⟨q, rfl, hq⟩ := hq
  have HX1 := Lib.hid (HX0.out.below hb1 HX0.out.lt)
  have HB1 := Lib.hid (HB0.out.trans (hb1.mono HB0.out.size))
  clear hb1
  cases q with
  | false =>
    clear hq
    go_wp2_with fail
    refine (alive27 _).mono ?_
    rintro e wz ⟨rfl, hbz⟩
    go_wp2_with fail
    go_ret
    exact ⟨rfl, HB1.out.trans (hbz.mono HB1.out.size)⟩
  | true =>
    have FM := Lib.hid (hq rfl); clear hq
    by_cases hs : key.size ≤ 1000
    rotate_left
    · have hs' : (1000 : Int) < key.size := by omega
      go_wp2_with fail
      refine (alive27 _).mono ?_
      rintro e wz ⟨rfl, hbz⟩
      go_wp2_with fail
      go_ret
      exact ⟨rfl, HB1.out.trans (hbz.mono HB1.out.size)⟩
    have hs' : (key.size : Int) ≤ 1000 := by omega
    clear hs
    cases hok : msgOk m with
    | false =>
      have HO := Lib.hid hok
      have HT := Lib.hid (show ¬ tagMok key m from fun h => by have := h.2; rw [HO.out] at this; simp at this)
      have HS := Lib.hid (show ¬ (taggedB m.kind && msgOk m) = true by rw [HO.out]; simp)
      clear hok
      go_wp2_with (first
        | ((with_reducible refine wpList_load_met 39 (.tmp 2) b0 0 (m.cells u l) _ (some 26) (HX1.out).range Tryz.underlying39 rfl sizeMsg ?hg ?ho ?hds ?hx ?_); (case ho => rfl); (case hg => rfl); (case hds => rfl); (case hx => rfl))
        | fail)
      refine (put27_walk m u l _ (HF.out.past HB1.out).up (HF.out.past HB1.out).left (FM.out.tame HF.out)).mono ?_
      rintro e w2 ⟨he, hb2⟩
      have HX2 := Lib.hid (HX1.out.below hb2 HX1.out.lt)
      have HB2 := Lib.hid (HB1.out.trans (hb2.mono HB1.out.size))
      clear hb2
      have h2 := he.no (by rw [HO.out]; decide)
      subst h2
      clear he
      go_wp2_with (first
        | ((with_reducible refine wpList_load_met 39 (.tmp 2) b0 0 (m.cells u l) _ (some 31) (HX2.out).range Tryz.underlying39 rfl sizeMsg ?hg ?ho ?hds ?hx ?_); (case ho => rfl); (case hg => rfl); (case hds => rfl); (case hx => rfl))
        | fail)
      refine (rput27_walk m u l _ (HF.out.past HB2.out).up (HF.out.past HB2.out).left HF.out.upl HF.out.leftl).mono ?_
      rintro e w3 ⟨he, hb3⟩
      have HX3 := Lib.hid (HX2.out.below hb3 HX2.out.lt)
      have HB3 := Lib.hid (HB2.out.trans (hb3.mono HB2.out.size))
      clear hb3
      have h2 := he.no (by rw [HO.out]; decide)
      subst h2
      clear he
      go_wp2_with (first
        | ((with_reducible refine wpList_load_met 39 (.tmp 2) b0 0 (m.cells u l) _ (some 37) (HX3.out).range Tryz.underlying39 rfl sizeMsg ?hg ?ho ?hds ?hx ?_); (case ho => rfl); (case hg => rfl); (case hds => rfl); (case hx => rfl))
        | fail)
      refine (tag27_walk key m u l _ (HF.out.past HB3.out).up (HF.out.past HB3.out).left (FM.out.tame HF.out)).mono ?_
      rintro e w4 ⟨he, hb4⟩
      have HX4 := Lib.hid (HX3.out.below hb4 HX3.out.lt)
      have HB4 := Lib.hid (HB3.out.trans (hb4.mono HB3.out.size))
      clear hb4
      have h2 := he.no HT.out
      subst h2
      clear he
      go_wp2_with (first
        | ((with_reducible refine wpList_load_met 39 (.tmp 2) b0 0 (m.cells u l) _ (some 43) (HX4.out).range Tryz.underlying39 rfl sizeMsg ?hg ?ho ?hds ?hx ?_); (case ho => rfl); (case hg => rfl); (case hds => rfl); (case hx => rfl))
        | fail)
      refine (rtag27_walk key m u l _ (HF.out.past HB4.out).up (HF.out.past HB4.out).left HF.out.upl HF.out.leftl).mono ?_
      rintro e w5 ⟨he, hb5⟩
      have HX5 := Lib.hid (HX4.out.below hb5 HX4.out.lt)
      have HB5 := Lib.hid (HB4.out.trans (hb5.mono HB4.out.size))
      clear hb5
      have h2 := he.no HT.out
      subst h2
      clear he
      go_wp2_with (first
        | ((with_reducible refine wpList_load_met 39 (.tmp 2) b0 0 (m.cells u l) _ (some 48) (HX5.out).range Tryz.underlying39 rfl sizeMsg ?hg ?ho ?hds ?hx ?_); (case ho => rfl); (case hg => rfl); (case hds => rfl); (case hx => rfl))
        | fail)
      refine (said27_walk m u l _ (HF.out.past HB5.out).up (HF.out.past HB5.out).left (FM.out.tame HF.out)).mono ?_
      rintro e w6 ⟨he, hb6⟩
      have HX6 := Lib.hid (HX5.out.below hb6 HX5.out.lt)
      have HB6 := Lib.hid (HB5.out.trans (hb6.mono HB5.out.size))
      clear hb6
      have h2 := he.no HS.out
      subst h2
      clear he
      have c0 : w6.cell? ⟨b0, 0, none⟩ = some (.int .i64 m.kind) := HX6.out.cell (i := 0) rfl
      have eqs : ∀ r : ByteArray, (r.toList == r.toList) = true := fun r => by simp
      go_wp2_with (first
        | ((with_reducible refine wpList_load_met 39 (.tmp 2) b0 0 (m.cells u l) _ (some 81) (HX6.out).range Tryz.underlying39 rfl sizeMsg ?hg ?ho ?hds ?hx ?_); (case ho => rfl); (case hg => rfl); (case hds => rfl); (case hx => rfl))
        | fail)
      refine (check27_walk m u l _ (HF.out.past HB6.out).up (HF.out.past HB6.out).left (FM.out.tame HF.out)).mono ?_
      rintro e w7 ⟨he, hb7⟩
      have HX7 := Lib.hid (HX6.out.below hb7 HX6.out.lt)
      have HB7 := Lib.hid (HB6.out.trans (hb7.mono HB6.out.size))
      clear hb7
      rw [chkM_no HO.out] at he
      subst he
      clear c0
      go_wp2_with fail
      refine (alive27 _).mono ?_
      rintro e wz ⟨rfl, hbz⟩
      go_wp2_with fail
      go_ret
      exact ⟨rfl, HB7.out.trans (hbz.mono HB7.out.size)⟩
    | true =>
      have HO := Lib.hid hok
      clear hok
      by_cases k3 : m.kind = 3
      · have HK := Lib.hid k3
        clear k3
        have HS := Lib.hid (show (taggedB m.kind && msgOk m) = true by rw [HO.out]; unfold taggedB; rw [HK.out]; rfl)
        by_cases h32 : key.size = 32
        · have HT := Lib.hid (show tagMok key m from ⟨h32, HS.out⟩)
          clear h32
          go_wp2_with (first
            | ((with_reducible refine wpList_load_met 39 (.tmp 2) b0 0 (m.cells u l) _ (some 26) (HX1.out).range Tryz.underlying39 rfl sizeMsg ?hg ?ho ?hds ?hx ?_); (case ho => rfl); (case hg => rfl); (case hds => rfl); (case hx => rfl))
            | fail)
          refine (put27_walk m u l _ (HF.out.past HB1.out).up (HF.out.past HB1.out).left (FM.out.tame HF.out)).mono ?_
          rintro e w2 ⟨he, hb2⟩
          have HX2 := Lib.hid (HX1.out.below hb2 HX1.out.lt)
          have HB2 := Lib.hid (HB1.out.trans (hb2.mono HB1.out.size))
          clear hb2
          obtain ⟨s, rfl, ts⟩ := he.yes HO.out
          have TS := Lib.hid ts
          clear he ts
          go_wp2_with (first
            | ((with_reducible refine wpList_load_met 39 (.tmp 2) b0 0 (m.cells u l) _ (some 31) (HX2.out).range Tryz.underlying39 rfl sizeMsg ?hg ?ho ?hds ?hx ?_); (case ho => rfl); (case hg => rfl); (case hds => rfl); (case hx => rfl))
            | fail)
          refine (rput27_walk m u l _ (HF.out.past HB2.out).up (HF.out.past HB2.out).left HF.out.upl HF.out.leftl).mono ?_
          rintro e w3 ⟨he, hb3⟩
          have HX3 := Lib.hid (HX2.out.below hb3 HX2.out.lt)
          have HB3 := Lib.hid (HB2.out.trans (hb3.mono HB2.out.size))
          clear hb3
          obtain ⟨t, rfl, tt⟩ := he.yes HO.out
          have hst : t = s := tt.eq TS.out
          subst hst
          clear he tt
          go_wp2_with (first
            | ((with_reducible refine wpList_load_met 39 (.tmp 2) b0 0 (m.cells u l) _ (some 37) (HX3.out).range Tryz.underlying39 rfl sizeMsg ?hg ?ho ?hds ?hx ?_); (case ho => rfl); (case hg => rfl); (case hds => rfl); (case hx => rfl))
            | fail)
          refine (tag27_walk key m u l _ (HF.out.past HB3.out).up (HF.out.past HB3.out).left (FM.out.tame HF.out)).mono ?_
          rintro e w4 ⟨he, hb4⟩
          have HX4 := Lib.hid (HX3.out.below hb4 HX3.out.lt)
          have HB4 := Lib.hid (HB3.out.trans (hb4.mono HB3.out.size))
          clear hb4
          obtain ⟨x, rfl, tx⟩ := he.yes HT.out
          have TX := Lib.hid tx
          clear he tx
          go_wp2_with (first
            | ((with_reducible refine wpList_load_met 39 (.tmp 2) b0 0 (m.cells u l) _ (some 43) (HX4.out).range Tryz.underlying39 rfl sizeMsg ?hg ?ho ?hds ?hx ?_); (case ho => rfl); (case hg => rfl); (case hds => rfl); (case hx => rfl))
            | fail)
          refine (rtag27_walk key m u l _ (HF.out.past HB4.out).up (HF.out.past HB4.out).left HF.out.upl HF.out.leftl).mono ?_
          rintro e w5 ⟨he, hb5⟩
          have HX5 := Lib.hid (HX4.out.below hb5 HX4.out.lt)
          have HB5 := Lib.hid (HB4.out.trans (hb5.mono HB4.out.size))
          clear hb5
          obtain ⟨y, rfl, ty⟩ := he.yes HT.out
          have hxy : y = x := ty.eq TX.out
          subst hxy
          clear he ty
          go_wp2_with (first
            | ((with_reducible refine wpList_load_met 39 (.tmp 2) b0 0 (m.cells u l) _ (some 48) (HX5.out).range Tryz.underlying39 rfl sizeMsg ?hg ?ho ?hds ?hx ?_); (case ho => rfl); (case hg => rfl); (case hds => rfl); (case hx => rfl))
            | fail)
          refine (said27_walk m u l _ (HF.out.past HB5.out).up (HF.out.past HB5.out).left (FM.out.tame HF.out)).mono ?_
          rintro e w6 ⟨he, hb6⟩
          have HX6 := Lib.hid (HX5.out.below hb6 HX5.out.lt)
          have HB6 := Lib.hid (HB5.out.trans (hb6.mono HB5.out.size))
          clear hb6
          obtain ⟨q, rfl, tq⟩ := he.yes HS.out
          have TQ := Lib.hid tq
          clear he tq
          have c0 : w6.cell? ⟨b0, 0, none⟩ = some (.int .i64 3) := by have := HX6.out.cell (i := 0) rfl; rw [this, ← HK.out]
          have eqs : ∀ r : ByteArray, (r.toList == r.toList) = true := fun r => by simp
          go_wp2_with (first
            | ((with_reducible refine wpList_load_met 39 (.tmp 2) b0 0 (m.cells u l) _ (some 81) (HX6.out).range Tryz.underlying39 rfl sizeMsg ?hg ?ho ?hds ?hx ?_); (case ho => rfl); (case hg => rfl); (case hds => rfl); (case hx => rfl))
            | fail)
          refine (check27_walk m u l _ (HF.out.past HB6.out).up (HF.out.past HB6.out).left (FM.out.tame HF.out)).mono ?_
          rintro e w7 ⟨he, hb7⟩
          have HX7 := Lib.hid (HX6.out.below hb7 HX6.out.lt)
          have HB7 := Lib.hid (HB6.out.trans (hb7.mono HB6.out.size))
          clear hb7
          rw [chkM_yes HO.out] at he
          subst he
          clear c0
          go_wp2_with (first
            | ((with_reducible refine wpList_load_met 39 (.tmp 2) b0 0 (m.cells u l) _ (some 117) (HX7.out).range Tryz.underlying39 rfl sizeMsg ?hg ?ho ?hds ?hx ?_); (case ho => rfl); (case hg => rfl); (case hds => rfl); (case hx => rfl))
            | fail)
          refine (rsaid27_walk m u l _ (HF.out.past HB7.out).up (HF.out.past HB7.out).left HO.out).mono ?_
          rintro e w8 ⟨p, rfl, tp, hb8⟩
          have HX8 := Lib.hid (HX7.out.below hb8 HX7.out.lt)
          have HB8 := Lib.hid (HB7.out.trans (hb8.mono HB7.out.size))
          clear hb8
          have hpq : p = q := Txt.eq tp TQ.out
          subst hpq
          clear tp
          go_wp2_with fail
          refine (alive27 _).mono ?_
          rintro e wz ⟨rfl, hbz⟩
          go_wp2_with fail
          go_ret
          exact ⟨rfl, HB8.out.trans (hbz.mono HB8.out.size)⟩
        · have HT := Lib.hid (show ¬ tagMok key m from fun h => h32 h.1)
          clear h32
          go_wp2_with (first
            | ((with_reducible refine wpList_load_met 39 (.tmp 2) b0 0 (m.cells u l) _ (some 26) (HX1.out).range Tryz.underlying39 rfl sizeMsg ?hg ?ho ?hds ?hx ?_); (case ho => rfl); (case hg => rfl); (case hds => rfl); (case hx => rfl))
            | fail)
          refine (put27_walk m u l _ (HF.out.past HB1.out).up (HF.out.past HB1.out).left (FM.out.tame HF.out)).mono ?_
          rintro e w2 ⟨he, hb2⟩
          have HX2 := Lib.hid (HX1.out.below hb2 HX1.out.lt)
          have HB2 := Lib.hid (HB1.out.trans (hb2.mono HB1.out.size))
          clear hb2
          obtain ⟨s, rfl, ts⟩ := he.yes HO.out
          have TS := Lib.hid ts
          clear he ts
          go_wp2_with (first
            | ((with_reducible refine wpList_load_met 39 (.tmp 2) b0 0 (m.cells u l) _ (some 31) (HX2.out).range Tryz.underlying39 rfl sizeMsg ?hg ?ho ?hds ?hx ?_); (case ho => rfl); (case hg => rfl); (case hds => rfl); (case hx => rfl))
            | fail)
          refine (rput27_walk m u l _ (HF.out.past HB2.out).up (HF.out.past HB2.out).left HF.out.upl HF.out.leftl).mono ?_
          rintro e w3 ⟨he, hb3⟩
          have HX3 := Lib.hid (HX2.out.below hb3 HX2.out.lt)
          have HB3 := Lib.hid (HB2.out.trans (hb3.mono HB2.out.size))
          clear hb3
          obtain ⟨t, rfl, tt⟩ := he.yes HO.out
          have hst : t = s := tt.eq TS.out
          subst hst
          clear he tt
          go_wp2_with (first
            | ((with_reducible refine wpList_load_met 39 (.tmp 2) b0 0 (m.cells u l) _ (some 37) (HX3.out).range Tryz.underlying39 rfl sizeMsg ?hg ?ho ?hds ?hx ?_); (case ho => rfl); (case hg => rfl); (case hds => rfl); (case hx => rfl))
            | fail)
          refine (tag27_walk key m u l _ (HF.out.past HB3.out).up (HF.out.past HB3.out).left (FM.out.tame HF.out)).mono ?_
          rintro e w4 ⟨he, hb4⟩
          have HX4 := Lib.hid (HX3.out.below hb4 HX3.out.lt)
          have HB4 := Lib.hid (HB3.out.trans (hb4.mono HB3.out.size))
          clear hb4
          have h2 := he.no HT.out
          subst h2
          clear he
          go_wp2_with (first
            | ((with_reducible refine wpList_load_met 39 (.tmp 2) b0 0 (m.cells u l) _ (some 43) (HX4.out).range Tryz.underlying39 rfl sizeMsg ?hg ?ho ?hds ?hx ?_); (case ho => rfl); (case hg => rfl); (case hds => rfl); (case hx => rfl))
            | fail)
          refine (rtag27_walk key m u l _ (HF.out.past HB4.out).up (HF.out.past HB4.out).left HF.out.upl HF.out.leftl).mono ?_
          rintro e w5 ⟨he, hb5⟩
          have HX5 := Lib.hid (HX4.out.below hb5 HX4.out.lt)
          have HB5 := Lib.hid (HB4.out.trans (hb5.mono HB4.out.size))
          clear hb5
          have h2 := he.no HT.out
          subst h2
          clear he
          go_wp2_with (first
            | ((with_reducible refine wpList_load_met 39 (.tmp 2) b0 0 (m.cells u l) _ (some 48) (HX5.out).range Tryz.underlying39 rfl sizeMsg ?hg ?ho ?hds ?hx ?_); (case ho => rfl); (case hg => rfl); (case hds => rfl); (case hx => rfl))
            | fail)
          refine (said27_walk m u l _ (HF.out.past HB5.out).up (HF.out.past HB5.out).left (FM.out.tame HF.out)).mono ?_
          rintro e w6 ⟨he, hb6⟩
          have HX6 := Lib.hid (HX5.out.below hb6 HX5.out.lt)
          have HB6 := Lib.hid (HB5.out.trans (hb6.mono HB5.out.size))
          clear hb6
          obtain ⟨q, rfl, tq⟩ := he.yes HS.out
          have TQ := Lib.hid tq
          clear he tq
          have c0 : w6.cell? ⟨b0, 0, none⟩ = some (.int .i64 3) := by have := HX6.out.cell (i := 0) rfl; rw [this, ← HK.out]
          have eqs : ∀ r : ByteArray, (r.toList == r.toList) = true := fun r => by simp
          go_wp2_with (first
            | ((with_reducible refine wpList_load_met 39 (.tmp 2) b0 0 (m.cells u l) _ (some 81) (HX6.out).range Tryz.underlying39 rfl sizeMsg ?hg ?ho ?hds ?hx ?_); (case ho => rfl); (case hg => rfl); (case hds => rfl); (case hx => rfl))
            | fail)
          refine (check27_walk m u l _ (HF.out.past HB6.out).up (HF.out.past HB6.out).left (FM.out.tame HF.out)).mono ?_
          rintro e w7 ⟨he, hb7⟩
          have HX7 := Lib.hid (HX6.out.below hb7 HX6.out.lt)
          have HB7 := Lib.hid (HB6.out.trans (hb7.mono HB6.out.size))
          clear hb7
          rw [chkM_yes HO.out] at he
          subst he
          clear c0
          go_wp2_with (first
            | ((with_reducible refine wpList_load_met 39 (.tmp 2) b0 0 (m.cells u l) _ (some 117) (HX7.out).range Tryz.underlying39 rfl sizeMsg ?hg ?ho ?hds ?hx ?_); (case ho => rfl); (case hg => rfl); (case hds => rfl); (case hx => rfl))
            | fail)
          refine (rsaid27_walk m u l _ (HF.out.past HB7.out).up (HF.out.past HB7.out).left HO.out).mono ?_
          rintro e w8 ⟨p, rfl, tp, hb8⟩
          have HX8 := Lib.hid (HX7.out.below hb8 HX7.out.lt)
          have HB8 := Lib.hid (HB7.out.trans (hb8.mono HB7.out.size))
          clear hb8
          have hpq : p = q := Txt.eq tp TQ.out
          subst hpq
          clear tp
          go_wp2_with fail
          refine (alive27 _).mono ?_
          rintro e wz ⟨rfl, hbz⟩
          go_wp2_with fail
          go_ret
          exact ⟨rfl, HB8.out.trans (hbz.mono HB8.out.size)⟩
      by_cases k4 : m.kind = 4
      · have HK := Lib.hid k4
        clear k3 k4
        have HS := Lib.hid (show (taggedB m.kind && msgOk m) = true by rw [HO.out]; unfold taggedB; rw [HK.out]; rfl)
        by_cases h32 : key.size = 32
        · have HT := Lib.hid (show tagMok key m from ⟨h32, HS.out⟩)
          clear h32
          go_wp2_with (first
            | ((with_reducible refine wpList_load_met 39 (.tmp 2) b0 0 (m.cells u l) _ (some 26) (HX1.out).range Tryz.underlying39 rfl sizeMsg ?hg ?ho ?hds ?hx ?_); (case ho => rfl); (case hg => rfl); (case hds => rfl); (case hx => rfl))
            | fail)
          refine (put27_walk m u l _ (HF.out.past HB1.out).up (HF.out.past HB1.out).left (FM.out.tame HF.out)).mono ?_
          rintro e w2 ⟨he, hb2⟩
          have HX2 := Lib.hid (HX1.out.below hb2 HX1.out.lt)
          have HB2 := Lib.hid (HB1.out.trans (hb2.mono HB1.out.size))
          clear hb2
          obtain ⟨s, rfl, ts⟩ := he.yes HO.out
          have TS := Lib.hid ts
          clear he ts
          go_wp2_with (first
            | ((with_reducible refine wpList_load_met 39 (.tmp 2) b0 0 (m.cells u l) _ (some 31) (HX2.out).range Tryz.underlying39 rfl sizeMsg ?hg ?ho ?hds ?hx ?_); (case ho => rfl); (case hg => rfl); (case hds => rfl); (case hx => rfl))
            | fail)
          refine (rput27_walk m u l _ (HF.out.past HB2.out).up (HF.out.past HB2.out).left HF.out.upl HF.out.leftl).mono ?_
          rintro e w3 ⟨he, hb3⟩
          have HX3 := Lib.hid (HX2.out.below hb3 HX2.out.lt)
          have HB3 := Lib.hid (HB2.out.trans (hb3.mono HB2.out.size))
          clear hb3
          obtain ⟨t, rfl, tt⟩ := he.yes HO.out
          have hst : t = s := tt.eq TS.out
          subst hst
          clear he tt
          go_wp2_with (first
            | ((with_reducible refine wpList_load_met 39 (.tmp 2) b0 0 (m.cells u l) _ (some 37) (HX3.out).range Tryz.underlying39 rfl sizeMsg ?hg ?ho ?hds ?hx ?_); (case ho => rfl); (case hg => rfl); (case hds => rfl); (case hx => rfl))
            | fail)
          refine (tag27_walk key m u l _ (HF.out.past HB3.out).up (HF.out.past HB3.out).left (FM.out.tame HF.out)).mono ?_
          rintro e w4 ⟨he, hb4⟩
          have HX4 := Lib.hid (HX3.out.below hb4 HX3.out.lt)
          have HB4 := Lib.hid (HB3.out.trans (hb4.mono HB3.out.size))
          clear hb4
          obtain ⟨x, rfl, tx⟩ := he.yes HT.out
          have TX := Lib.hid tx
          clear he tx
          go_wp2_with (first
            | ((with_reducible refine wpList_load_met 39 (.tmp 2) b0 0 (m.cells u l) _ (some 43) (HX4.out).range Tryz.underlying39 rfl sizeMsg ?hg ?ho ?hds ?hx ?_); (case ho => rfl); (case hg => rfl); (case hds => rfl); (case hx => rfl))
            | fail)
          refine (rtag27_walk key m u l _ (HF.out.past HB4.out).up (HF.out.past HB4.out).left HF.out.upl HF.out.leftl).mono ?_
          rintro e w5 ⟨he, hb5⟩
          have HX5 := Lib.hid (HX4.out.below hb5 HX4.out.lt)
          have HB5 := Lib.hid (HB4.out.trans (hb5.mono HB4.out.size))
          clear hb5
          obtain ⟨y, rfl, ty⟩ := he.yes HT.out
          have hxy : y = x := ty.eq TX.out
          subst hxy
          clear he ty
          go_wp2_with (first
            | ((with_reducible refine wpList_load_met 39 (.tmp 2) b0 0 (m.cells u l) _ (some 48) (HX5.out).range Tryz.underlying39 rfl sizeMsg ?hg ?ho ?hds ?hx ?_); (case ho => rfl); (case hg => rfl); (case hds => rfl); (case hx => rfl))
            | fail)
          refine (said27_walk m u l _ (HF.out.past HB5.out).up (HF.out.past HB5.out).left (FM.out.tame HF.out)).mono ?_
          rintro e w6 ⟨he, hb6⟩
          have HX6 := Lib.hid (HX5.out.below hb6 HX5.out.lt)
          have HB6 := Lib.hid (HB5.out.trans (hb6.mono HB5.out.size))
          clear hb6
          obtain ⟨q, rfl, tq⟩ := he.yes HS.out
          have TQ := Lib.hid tq
          clear he tq
          have c0 : w6.cell? ⟨b0, 0, none⟩ = some (.int .i64 4) := by have := HX6.out.cell (i := 0) rfl; rw [this, ← HK.out]
          have eqs : ∀ r : ByteArray, (r.toList == r.toList) = true := fun r => by simp
          go_wp2_with (first
            | ((with_reducible refine wpList_load_met 39 (.tmp 2) b0 0 (m.cells u l) _ (some 81) (HX6.out).range Tryz.underlying39 rfl sizeMsg ?hg ?ho ?hds ?hx ?_); (case ho => rfl); (case hg => rfl); (case hds => rfl); (case hx => rfl))
            | fail)
          refine (check27_walk m u l _ (HF.out.past HB6.out).up (HF.out.past HB6.out).left (FM.out.tame HF.out)).mono ?_
          rintro e w7 ⟨he, hb7⟩
          have HX7 := Lib.hid (HX6.out.below hb7 HX6.out.lt)
          have HB7 := Lib.hid (HB6.out.trans (hb7.mono HB6.out.size))
          clear hb7
          rw [chkM_yes HO.out] at he
          subst he
          clear c0
          go_wp2_with (first
            | ((with_reducible refine wpList_load_met 39 (.tmp 2) b0 0 (m.cells u l) _ (some 117) (HX7.out).range Tryz.underlying39 rfl sizeMsg ?hg ?ho ?hds ?hx ?_); (case ho => rfl); (case hg => rfl); (case hds => rfl); (case hx => rfl))
            | fail)
          refine (rsaid27_walk m u l _ (HF.out.past HB7.out).up (HF.out.past HB7.out).left HO.out).mono ?_
          rintro e w8 ⟨p, rfl, tp, hb8⟩
          have HX8 := Lib.hid (HX7.out.below hb8 HX7.out.lt)
          have HB8 := Lib.hid (HB7.out.trans (hb8.mono HB7.out.size))
          clear hb8
          have hpq : p = q := Txt.eq tp TQ.out
          subst hpq
          clear tp
          go_wp2_with fail
          refine (alive27 _).mono ?_
          rintro e wz ⟨rfl, hbz⟩
          go_wp2_with fail
          go_ret
          exact ⟨rfl, HB8.out.trans (hbz.mono HB8.out.size)⟩
        · have HT := Lib.hid (show ¬ tagMok key m from fun h => h32 h.1)
          clear h32
          go_wp2_with (first
            | ((with_reducible refine wpList_load_met 39 (.tmp 2) b0 0 (m.cells u l) _ (some 26) (HX1.out).range Tryz.underlying39 rfl sizeMsg ?hg ?ho ?hds ?hx ?_); (case ho => rfl); (case hg => rfl); (case hds => rfl); (case hx => rfl))
            | fail)
          refine (put27_walk m u l _ (HF.out.past HB1.out).up (HF.out.past HB1.out).left (FM.out.tame HF.out)).mono ?_
          rintro e w2 ⟨he, hb2⟩
          have HX2 := Lib.hid (HX1.out.below hb2 HX1.out.lt)
          have HB2 := Lib.hid (HB1.out.trans (hb2.mono HB1.out.size))
          clear hb2
          obtain ⟨s, rfl, ts⟩ := he.yes HO.out
          have TS := Lib.hid ts
          clear he ts
          go_wp2_with (first
            | ((with_reducible refine wpList_load_met 39 (.tmp 2) b0 0 (m.cells u l) _ (some 31) (HX2.out).range Tryz.underlying39 rfl sizeMsg ?hg ?ho ?hds ?hx ?_); (case ho => rfl); (case hg => rfl); (case hds => rfl); (case hx => rfl))
            | fail)
          refine (rput27_walk m u l _ (HF.out.past HB2.out).up (HF.out.past HB2.out).left HF.out.upl HF.out.leftl).mono ?_
          rintro e w3 ⟨he, hb3⟩
          have HX3 := Lib.hid (HX2.out.below hb3 HX2.out.lt)
          have HB3 := Lib.hid (HB2.out.trans (hb3.mono HB2.out.size))
          clear hb3
          obtain ⟨t, rfl, tt⟩ := he.yes HO.out
          have hst : t = s := tt.eq TS.out
          subst hst
          clear he tt
          go_wp2_with (first
            | ((with_reducible refine wpList_load_met 39 (.tmp 2) b0 0 (m.cells u l) _ (some 37) (HX3.out).range Tryz.underlying39 rfl sizeMsg ?hg ?ho ?hds ?hx ?_); (case ho => rfl); (case hg => rfl); (case hds => rfl); (case hx => rfl))
            | fail)
          refine (tag27_walk key m u l _ (HF.out.past HB3.out).up (HF.out.past HB3.out).left (FM.out.tame HF.out)).mono ?_
          rintro e w4 ⟨he, hb4⟩
          have HX4 := Lib.hid (HX3.out.below hb4 HX3.out.lt)
          have HB4 := Lib.hid (HB3.out.trans (hb4.mono HB3.out.size))
          clear hb4
          have h2 := he.no HT.out
          subst h2
          clear he
          go_wp2_with (first
            | ((with_reducible refine wpList_load_met 39 (.tmp 2) b0 0 (m.cells u l) _ (some 43) (HX4.out).range Tryz.underlying39 rfl sizeMsg ?hg ?ho ?hds ?hx ?_); (case ho => rfl); (case hg => rfl); (case hds => rfl); (case hx => rfl))
            | fail)
          refine (rtag27_walk key m u l _ (HF.out.past HB4.out).up (HF.out.past HB4.out).left HF.out.upl HF.out.leftl).mono ?_
          rintro e w5 ⟨he, hb5⟩
          have HX5 := Lib.hid (HX4.out.below hb5 HX4.out.lt)
          have HB5 := Lib.hid (HB4.out.trans (hb5.mono HB4.out.size))
          clear hb5
          have h2 := he.no HT.out
          subst h2
          clear he
          go_wp2_with (first
            | ((with_reducible refine wpList_load_met 39 (.tmp 2) b0 0 (m.cells u l) _ (some 48) (HX5.out).range Tryz.underlying39 rfl sizeMsg ?hg ?ho ?hds ?hx ?_); (case ho => rfl); (case hg => rfl); (case hds => rfl); (case hx => rfl))
            | fail)
          refine (said27_walk m u l _ (HF.out.past HB5.out).up (HF.out.past HB5.out).left (FM.out.tame HF.out)).mono ?_
          rintro e w6 ⟨he, hb6⟩
          have HX6 := Lib.hid (HX5.out.below hb6 HX5.out.lt)
          have HB6 := Lib.hid (HB5.out.trans (hb6.mono HB5.out.size))
          clear hb6
          obtain ⟨q, rfl, tq⟩ := he.yes HS.out
          have TQ := Lib.hid tq
          clear he tq
          have c0 : w6.cell? ⟨b0, 0, none⟩ = some (.int .i64 4) := by have := HX6.out.cell (i := 0) rfl; rw [this, ← HK.out]
          have eqs : ∀ r : ByteArray, (r.toList == r.toList) = true := fun r => by simp
          go_wp2_with (first
            | ((with_reducible refine wpList_load_met 39 (.tmp 2) b0 0 (m.cells u l) _ (some 81) (HX6.out).range Tryz.underlying39 rfl sizeMsg ?hg ?ho ?hds ?hx ?_); (case ho => rfl); (case hg => rfl); (case hds => rfl); (case hx => rfl))
            | fail)
          refine (check27_walk m u l _ (HF.out.past HB6.out).up (HF.out.past HB6.out).left (FM.out.tame HF.out)).mono ?_
          rintro e w7 ⟨he, hb7⟩
          have HX7 := Lib.hid (HX6.out.below hb7 HX6.out.lt)
          have HB7 := Lib.hid (HB6.out.trans (hb7.mono HB6.out.size))
          clear hb7
          rw [chkM_yes HO.out] at he
          subst he
          clear c0
          go_wp2_with (first
            | ((with_reducible refine wpList_load_met 39 (.tmp 2) b0 0 (m.cells u l) _ (some 117) (HX7.out).range Tryz.underlying39 rfl sizeMsg ?hg ?ho ?hds ?hx ?_); (case ho => rfl); (case hg => rfl); (case hds => rfl); (case hx => rfl))
            | fail)
          refine (rsaid27_walk m u l _ (HF.out.past HB7.out).up (HF.out.past HB7.out).left HO.out).mono ?_
          rintro e w8 ⟨p, rfl, tp, hb8⟩
          have HX8 := Lib.hid (HX7.out.below hb8 HX7.out.lt)
          have HB8 := Lib.hid (HB7.out.trans (hb8.mono HB7.out.size))
          clear hb8
          have hpq : p = q := Txt.eq tp TQ.out
          subst hpq
          clear tp
          go_wp2_with fail
          refine (alive27 _).mono ?_
          rintro e wz ⟨rfl, hbz⟩
          go_wp2_with fail
          go_ret
          exact ⟨rfl, HB8.out.trans (hbz.mono HB8.out.size)⟩
      have HK := Lib.hid (And.intro k3 k4)
      clear k3 k4
      have HN := Lib.hid (show taggedB m.kind = false by unfold taggedB; simp [HK.out.1, HK.out.2])
      have HT := Lib.hid (show ¬ tagMok key m from fun h => by have := h.2; rw [HN.out] at this; simp at this)
      have HS := Lib.hid (show ¬ (taggedB m.kind && msgOk m) = true by rw [HN.out]; simp)
      go_wp2_with (first
        | ((with_reducible refine wpList_load_met 39 (.tmp 2) b0 0 (m.cells u l) _ (some 26) (HX1.out).range Tryz.underlying39 rfl sizeMsg ?hg ?ho ?hds ?hx ?_); (case ho => rfl); (case hg => rfl); (case hds => rfl); (case hx => rfl))
        | fail)
      refine (put27_walk m u l _ (HF.out.past HB1.out).up (HF.out.past HB1.out).left (FM.out.tame HF.out)).mono ?_
      rintro e w2 ⟨he, hb2⟩
      have HX2 := Lib.hid (HX1.out.below hb2 HX1.out.lt)
      have HB2 := Lib.hid (HB1.out.trans (hb2.mono HB1.out.size))
      clear hb2
      obtain ⟨s, rfl, ts⟩ := he.yes HO.out
      have TS := Lib.hid ts
      clear he ts
      go_wp2_with (first
        | ((with_reducible refine wpList_load_met 39 (.tmp 2) b0 0 (m.cells u l) _ (some 31) (HX2.out).range Tryz.underlying39 rfl sizeMsg ?hg ?ho ?hds ?hx ?_); (case ho => rfl); (case hg => rfl); (case hds => rfl); (case hx => rfl))
        | fail)
      refine (rput27_walk m u l _ (HF.out.past HB2.out).up (HF.out.past HB2.out).left HF.out.upl HF.out.leftl).mono ?_
      rintro e w3 ⟨he, hb3⟩
      have HX3 := Lib.hid (HX2.out.below hb3 HX2.out.lt)
      have HB3 := Lib.hid (HB2.out.trans (hb3.mono HB2.out.size))
      clear hb3
      obtain ⟨t, rfl, tt⟩ := he.yes HO.out
      have hst : t = s := tt.eq TS.out
      subst hst
      clear he tt
      go_wp2_with (first
        | ((with_reducible refine wpList_load_met 39 (.tmp 2) b0 0 (m.cells u l) _ (some 37) (HX3.out).range Tryz.underlying39 rfl sizeMsg ?hg ?ho ?hds ?hx ?_); (case ho => rfl); (case hg => rfl); (case hds => rfl); (case hx => rfl))
        | fail)
      refine (tag27_walk key m u l _ (HF.out.past HB3.out).up (HF.out.past HB3.out).left (FM.out.tame HF.out)).mono ?_
      rintro e w4 ⟨he, hb4⟩
      have HX4 := Lib.hid (HX3.out.below hb4 HX3.out.lt)
      have HB4 := Lib.hid (HB3.out.trans (hb4.mono HB3.out.size))
      clear hb4
      have h2 := he.no HT.out
      subst h2
      clear he
      go_wp2_with (first
        | ((with_reducible refine wpList_load_met 39 (.tmp 2) b0 0 (m.cells u l) _ (some 43) (HX4.out).range Tryz.underlying39 rfl sizeMsg ?hg ?ho ?hds ?hx ?_); (case ho => rfl); (case hg => rfl); (case hds => rfl); (case hx => rfl))
        | fail)
      refine (rtag27_walk key m u l _ (HF.out.past HB4.out).up (HF.out.past HB4.out).left HF.out.upl HF.out.leftl).mono ?_
      rintro e w5 ⟨he, hb5⟩
      have HX5 := Lib.hid (HX4.out.below hb5 HX4.out.lt)
      have HB5 := Lib.hid (HB4.out.trans (hb5.mono HB4.out.size))
      clear hb5
      have h2 := he.no HT.out
      subst h2
      clear he
      go_wp2_with (first
        | ((with_reducible refine wpList_load_met 39 (.tmp 2) b0 0 (m.cells u l) _ (some 48) (HX5.out).range Tryz.underlying39 rfl sizeMsg ?hg ?ho ?hds ?hx ?_); (case ho => rfl); (case hg => rfl); (case hds => rfl); (case hx => rfl))
        | fail)
      refine (said27_walk m u l _ (HF.out.past HB5.out).up (HF.out.past HB5.out).left (FM.out.tame HF.out)).mono ?_
      rintro e w6 ⟨he, hb6⟩
      have HX6 := Lib.hid (HX5.out.below hb6 HX5.out.lt)
      have HB6 := Lib.hid (HB5.out.trans (hb6.mono HB5.out.size))
      clear hb6
      have h2 := he.no HS.out
      subst h2
      clear he
      have c0 : w6.cell? ⟨b0, 0, none⟩ = some (.int .i64 m.kind) := HX6.out.cell (i := 0) rfl
      have k3 : (m.kind == 3) = false := by simpa using HK.out.1
      have k4 : (m.kind == 4) = false := by simpa using HK.out.2
      have eqs : ∀ r : ByteArray, (r.toList == r.toList) = true := fun r => by simp
      go_wp2_with (first
        | ((with_reducible refine wpList_load_met 39 (.tmp 2) b0 0 (m.cells u l) _ (some 81) (HX6.out).range Tryz.underlying39 rfl sizeMsg ?hg ?ho ?hds ?hx ?_); (case ho => rfl); (case hg => rfl); (case hds => rfl); (case hx => rfl))
        | fail)
      refine (check27_walk m u l _ (HF.out.past HB6.out).up (HF.out.past HB6.out).left (FM.out.tame HF.out)).mono ?_
      rintro e w7 ⟨he, hb7⟩
      have HX7 := Lib.hid (HX6.out.below hb7 HX6.out.lt)
      have HB7 := Lib.hid (HB6.out.trans (hb7.mono HB6.out.size))
      clear hb7
      rw [chkM_yes HO.out] at he
      subst he
      clear c0
      go_wp2_with fail
      refine (alive27 _).mono ?_
      rintro e wz ⟨rfl, hbz⟩
      go_wp2_with fail
      go_ret
      exact ⟨rfl, HB7.out.trans (hbz.mono HB7.out.size)⟩
end Go.Proofs.YtidekfbgjghcjaaGreat
