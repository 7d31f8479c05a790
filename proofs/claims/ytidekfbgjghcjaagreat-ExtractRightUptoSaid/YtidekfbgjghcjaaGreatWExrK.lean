/- Walk of ExtractRight: the kinds of findings. -/
import Derived.Test.YtidekfbgjghcjaaGreatWExrG
import Derived.Deep.CutBlock
namespace Go.Proofs.YtidekfbgjghcjaaGreat
set_option linter.unusedSimpArgs false
set_option linter.unusedVariables false
open Go Go.RowKit
set_option maxRecDepth 100000 in
set_option maxHeartbeats 40000000 in
theorem extractRight_main (key : ByteArray) (first : Int) (sv cv : Value) (p : Option Addr) (n c : Nat) (sl : List Sld) (cl : List ByteArray) (hl : List Hd) (below kind epoch : Int) (fa fb fm ft : ByteArray) (w : World) (hs : SldRow w sv sl) (hv1 : sv.oneCell' = true) (hv2 : cv.oneCell' = true) (hcr : CellRow w cv cl) (hr : HdRow w (.slice p n c) hl) (hft : HdFits w hl) (hnl : Value.slice p n c = .slice none 0 0 ∨ ∃ ad m c', Value.slice p n c = .slice (some ad) m c') (hlen : hl.length ≤ 1048576) (hsl : sl.length ≤ 1048576) (htm : SldTame sl) (hsz : fa.size ≤ 1048576 ∧ fb.size ≤ 1048576 ∧ fm.size ≤ 1048576 ∧ ft.size ≤ 1048576) (hkd : decide ((1000:Int) < key.size) = false) (hf : fewS sl = true) (hbig : decide ((5000:Int) < (fa.size : Int) + fb.size + fm.size + ft.size) = false) (hfst : Fits first) (hfep : Fits epoch) (hgc : ¬ (0 ≤ first ∧ first ≤ epoch ∧ 40 < epoch - first ∧ epoch - first ≤ 4096)) :
    Calls Tryz.prog 4 #[.string key, .int .i64 first, .agg #[sv, cv, .slice p n c], .int .i64 below, (⟨kind, fa, fb, epoch, fm, ft⟩ : Fnd).v] w fun e w' => e = .returned (.bool true) ∧ Below w.heap.size w w' := by
  go_enter Tryz.func4, Tryz.ntmps4
  go_upto_region 1 with (first
    | ((with_reducible refine wpList_box_new 56 (.tmp 2) ([sv, cv, .slice p n c]) (some 7) ?hgd ?ho ?hd ?hx ?_); (case hgd | ho | hd | hx => rfl); (intro b0 w0 l0 B0 e0 z0))
    | ((with_reducible refine wpList_box_new 58 (.tmp 4) ((⟨kind, fa, fb, epoch, fm, ft⟩ : Fnd).cells) (some 9) ?hgd ?ho ?hd ?hx ?_); (case hgd | ho | hd | hx => rfl); (intro b1 w1 l1 B1 e1 z1); have X1 := B0.below e1 (Nat.lt_of_lt_of_le B0.lt l1))
    | fail)
  have HX1 := Lib.hid X1
  have HY1 := Lib.hid B1
  have HB1 := Lib.hid (show Below w.heap.size w w1 from (e0.mono l0).trans (e1.mono (by have := B0.lt; omega)))
  clear X1 B1 B0 e0 e1 l0 l1 z0 z1
  go_cut [62] from 12 to 62 (fun v wx => (v = .bool true ∨ (v = .bool false ∧ HdFew hl)) ∧ Blk wx b0 [sv, cv, .slice p n c] 56 ∧ Blk wx b1 (⟨kind, fa, fb, epoch, fm, ft⟩ : Fnd).cells 58 ∧ Below w.heap.size w wx)
  case first =>
    go_wp2_with (first
      | (rw [hkd]; ((with_reducible refine wpList_load_met 56 (.tmp 7) b0 0 ([sv, cv, .slice p n c]) _ (some 16) (HX1.out).range Tryz.underlying56 rfl sizeHonR ?hg ?ho ?hds ?hx ?_); (case ho | hg | hds | hx => rfl)))
      | ((with_reducible refine wpList_load_met 56 (.tmp 7) b0 0 ([sv, cv, .slice p n c]) _ (some 16) (HX1.out).range Tryz.underlying56 rfl sizeHonR ?hg ?ho ?hds ?hx ?_); (case ho | hg | hds | hx => rfl))
      | ((with_reducible refine wpList_build_eq 62 ?parts (seenZero) ?hg ?ho ?hf ?_); (case hg | ho => rfl); (case hf => exact builtSeen))
      | fail)
    refine (few32_yes sv cv p n c sl cl hl _ (hs.below HB1.out (Nat.le_refl _)) hv1 hv2 hf (hcr.below HB1.out) (hr.below HB1.out) (hft.below HB1.out) hnl hlen).mono ?_
    rintro e w2 ⟨⟨q, rfl, hq⟩, hb2⟩
    have HX2 := Lib.hid (HX1.out.below hb2 HX1.out.lt)
    have HY2 := Lib.hid (HY1.out.below hb2 HY1.out.lt)
    have HB2 := Lib.hid (HB1.out.trans (hb2.mono HB1.out.size))
    clear hb2
    cases q with
    | false =>
      go_wp2_with fail
      go_meet
      exact ⟨.inl rfl, HX2.out, HY2.out, HB2.out⟩
    | true =>
      have HFEW := Lib.hid (hq rfl).2
      clear hq
      obtain ⟨z1, z2, z3, z4⟩ := hsz
      have y0 := HY2.out.cell (i := 0) rfl
      have y1 := HY2.out.cell (i := 1) rfl
      have y2 := HY2.out.cell (i := 2) rfl
      have y3 := HY2.out.cell (i := 3) rfl
      have y4 := HY2.out.cell (i := 4) rfl
      have y5 := HY2.out.cell (i := 5) rfl
      by_cases c1 : 0 ≤ first
      · by_cases c2 : first ≤ epoch
        · by_cases c3 : 40 < epoch - first
          · have c4 : 4096 < epoch - first := by have h9 := hgc; omega
            have c5 : epoch - first ≤ 9223372036854775807 := by have h1 := hfep; have h2 := hfst; unfold Fits at h1 h2; omega
            go_wp2_with fail
            go_meet
            exact ⟨.inr ⟨congrArg Value.bool (decide_eq_false (by omega)), HFEW.out⟩, HX2.out, HY2.out, HB2.out⟩
          · go_wp2_with fail
            go_meet
            exact ⟨.inr ⟨rfl, HFEW.out⟩, HX2.out, HY2.out, HB2.out⟩
        · go_wp2_with fail
          go_meet
          exact ⟨.inr ⟨rfl, HFEW.out⟩, HX2.out, HY2.out, HB2.out⟩
      · go_wp2_with fail
        go_meet
        exact ⟨.inr ⟨rfl, HFEW.out⟩, HX2.out, HY2.out, HB2.out⟩
  case rest =>
  obtain ⟨hv, hX2, hY2, hB2⟩ := hcut
  have HX2 := Lib.hid hX2
  have HY2 := Lib.hid hY2
  have HB2 := Lib.hid hB2
  clear hX2 hY2 hB2 HX1 HY1 HB1
  rcases hv with rfl | ⟨rfl, hfew⟩
  · go_wp2_with fail
    refine (alive32 _).mono ?_
    rintro e wz ⟨rfl, hbz⟩
    go_wp2_with fail
    go_ret
    exact ⟨rfl, HB2.out.trans (hbz.mono HB2.out.size)⟩
  obtain ⟨z1, z2, z3, z4⟩ := hsz
  have y0 := HY2.out.cell (i := 0) rfl
  have y1 := HY2.out.cell (i := 1) rfl
  have y2 := HY2.out.cell (i := 2) rfl
  have y3 := HY2.out.cell (i := 3) rfl
  have y4 := HY2.out.cell (i := 4) rfl
  have y5 := HY2.out.cell (i := 5) rfl
  by_cases k1 : kind = 1
  · subst k1
    by_cases hne : fa = fb
    · subst hne
      have hv : sumsS fa fa = false := by unfold sumsS; simp
      go_wp2_with fail
      refine (rsums_walk fa fa _ (by omega) (by omega)).mono ?_
      rintro e w3 ⟨rfl, hb3⟩
      rw [hv]
      have HX3 := Lib.hid (HX2.out.below hb3 HX2.out.lt)
      have HY3 := Lib.hid (HY2.out.below hb3 HY2.out.lt)
      have HB3 := Lib.hid (HB2.out.trans (hb3.mono HB2.out.size))
      clear hb3
      go_wp2_with (first
        | ((with_reducible refine wpList_load_met 56 (.tmp 7) b0 0 ([sv, cv, .slice p n c]) _ (some 125) (HX3.out).range Tryz.underlying56 rfl sizeHonR ?hg ?ho ?hds ?hx ?_); (case ho | hg | hds | hx => rfl))
        | ((with_reducible refine wpList_load_met 58 (.tmp 9) b1 0 ((⟨1, fa, fa, epoch, fm, ft⟩ : Fnd).cells) _ (some 127) (HY3.out).range Tryz.underlying58 rfl sizeFnd ?hg ?ho ?hds ?hx ?_); (case ho | hg | hds | hx => rfl))
        | fail)
      refine (right32_same key first sv cv (.slice p n c) below epoch fa fm ft _ hv1 hv2 rfl).mono ?_
      rintro e w4 ⟨rfl, hb4⟩
      have HX4 := Lib.hid (HX3.out.below hb4 HX3.out.lt)
      have HY4 := Lib.hid (HY3.out.below hb4 HY3.out.lt)
      have HB4 := Lib.hid (HB3.out.trans (hb4.mono HB3.out.size))
      clear hb4
      go_wp2_with fail
      refine (alive32 _).mono ?_
      rintro e wz ⟨rfl, hbz⟩
      go_wp2_with fail
      go_ret
      exact ⟨rfl, HB4.out.trans (hbz.mono HB4.out.size)⟩
    · skip
      obtain ⟨q, hqq⟩ : ∃ q, decide (sha fa.data.toList = sha fb.data.toList) = q := ⟨_, rfl⟩
      have hv : sumsS fa fb = q := by unfold sumsS; rw [hqq]; simp [hne]
      go_wp2_with fail
      refine (rsums_walk fa fb _ (by omega) (by omega)).mono ?_
      rintro e w3 ⟨rfl, hb3⟩
      rw [hv]
      have HX3 := Lib.hid (HX2.out.below hb3 HX2.out.lt)
      have HY3 := Lib.hid (HY2.out.below hb3 HY2.out.lt)
      have HB3 := Lib.hid (HB2.out.trans (hb3.mono HB2.out.size))
      clear hb3
      go_wp2_with (first
        | ((with_reducible refine wpList_load_met 56 (.tmp 7) b0 0 ([sv, cv, .slice p n c]) _ (some 125) (HX3.out).range Tryz.underlying56 rfl sizeHonR ?hg ?ho ?hds ?hx ?_); (case ho | hg | hds | hx => rfl))
        | ((with_reducible refine wpList_load_met 58 (.tmp 9) b1 0 ((⟨1, fa, fb, epoch, fm, ft⟩ : Fnd).cells) _ (some 127) (HY3.out).range Tryz.underlying58 rfl sizeFnd ?hg ?ho ?hds ?hx ?_); (case ho | hg | hds | hx => rfl))
        | fail)
      refine (right32_sums key first sv cv (.slice p n c) below epoch fa fb fm ft _ hv1 hv2 rfl hne (by omega) (by omega)).mono ?_
      rintro e w4 ⟨rfl, hb4⟩
      rw [hqq]
      clear hv hqq
      have HX4 := Lib.hid (HX3.out.below hb4 HX3.out.lt)
      have HY4 := Lib.hid (HY3.out.below hb4 HY3.out.lt)
      have HB4 := Lib.hid (HB3.out.trans (hb4.mono HB3.out.size))
      clear hb4
      cases q with
      | false =>
        go_wp2_with fail
        refine (alive32 _).mono ?_
        rintro e wz ⟨rfl, hbz⟩
        go_wp2_with fail
        go_ret
        exact ⟨rfl, HB4.out.trans (hbz.mono HB4.out.size)⟩
      | true =>
        go_wp2_with fail
        refine (alive32 _).mono ?_
        rintro e wz ⟨rfl, hbz⟩
        go_wp2_with fail
        go_ret
        exact ⟨rfl, HB4.out.trans (hbz.mono HB4.out.size)⟩
  by_cases k2 : kind = 2
  · subst k2
    clear k1
    by_cases hbl : epoch < below
    · cases htg : taggedS key first ⟨2, fa, fb, epoch, fm, ft⟩ [109, 97, 99] with
      | true =>
        go_upto_block 0 with fail
        go_cut [11] from 12 to 122 (fun v wx => ((v = .bool false ∧ ∃ k, MadeAt sl fm.data.toList k) ∨ (v = .bool true ∧ ¬ ∃ k, MadeAt sl fm.data.toList k)) ∧ Blk wx b0 [sv, cv, .slice p n c] 56 ∧ Blk wx b1 (⟨2, fa, fb, epoch, fm, ft⟩ : Fnd).cells 58 ∧ Below w.heap.size w wx)
        case first =>
          go_wp2_with fail
          refine (rtagged_walk key first epoch ⟨#[109, 97, 99]⟩ fm ft _ (by decide) (by omega)).mono ?_
          rintro e w3 ⟨he, hb3⟩
          rw [show taggedS key first ⟨0, ⟨#[]⟩, ⟨#[]⟩, epoch, fm, ft⟩ (⟨#[109, 97, 99]⟩ : ByteArray).data.toList = true from htg] at he
          subst he
          have HX3 := Lib.hid (HX2.out.below hb3 HX2.out.lt)
          have HY3 := Lib.hid (HY2.out.below hb3 HY2.out.lt)
          have HB3 := Lib.hid (HB2.out.trans (hb3.mono HB2.out.size))
          clear hb3
          clear y0 y1 y2 y3 y4 y5
          have y0 := HY3.out.cell (i := 0) rfl
          have y1 := HY3.out.cell (i := 1) rfl
          have y2 := HY3.out.cell (i := 2) rfl
          have y3 := HY3.out.cell (i := 3) rfl
          have y4 := HY3.out.cell (i := 4) rfl
          have y5 := HY3.out.cell (i := 5) rfl
          have x0 := HX3.out.cell (i := 0) rfl
          have x2 := HX3.out.cell (i := 2) rfl
          go_wp2_with fail
          refine (rmade32_walk sv sl fm _ (hs.below HB3.out (Nat.le_refl _)) hsl htm).mono ?_
          rintro e w4 ⟨⟨q, rfl, hq⟩, hb4⟩
          have HX4 := Lib.hid (HX3.out.below hb4 HX3.out.lt)
          have HY4 := Lib.hid (HY3.out.below hb4 HY3.out.lt)
          have HB4 := Lib.hid (HB3.out.trans (hb4.mono HB3.out.size))
          clear hb4
          clear x0 x2 y0 y1 y2 y3 y4 y5
          have HQ := Lib.hid hq
          clear hq
          cases q with
          | true =>
            go_wp2_with fail
            go_meet
            exact ⟨.inl ⟨rfl, HQ.out.1 (by trivial)⟩, HX4.out, HY4.out, HB4.out⟩
          | false =>
            go_wp2_with fail
            go_meet
            exact ⟨.inr ⟨rfl, fun h => by have := HQ.out.2 h; cases this⟩, HX4.out, HY4.out, HB4.out⟩
        case rest =>
        obtain ⟨hq, hX5, hY5, hB5⟩ := hcut
        have HX5 := Lib.hid hX5
        have HY5 := Lib.hid hY5
        have HB5 := Lib.hid hB5
        clear hX5 hY5 hB5 y0 y1 y2 y3 y4 y5
        rcases hq with ⟨rfl, hq⟩ | ⟨rfl, hq⟩
        · have HQ := Lib.hid hq
          clear hq
          go_wp2_with (first
            | ((with_reducible refine wpList_load_met 56 (.tmp 7) b0 0 ([sv, cv, .slice p n c]) _ (some 125) (HX5.out).range Tryz.underlying56 rfl sizeHonR ?hg ?ho ?hds ?hx ?_); (case ho | hg | hds | hx => rfl))
            | ((with_reducible refine wpList_load_met 58 (.tmp 9) b1 0 ((⟨2, fa, fb, epoch, fm, ft⟩ : Fnd).cells) _ (some 127) (HY5.out).range Tryz.underlying58 rfl sizeFnd ?hg ?ho ?hds ?hx ?_); (case ho | hg | hds | hx => rfl))
            | fail)
          refine (right32_two key first sv cv (.slice p n c) sl below epoch fa fb fm ft _ (hs.below HB5.out (Nat.le_refl _)) hv2 rfl hsl htm (Nat.le_trans z3 (by decide))).mono ?_
          rintro e w6 ⟨⟨r, rfl, hrr⟩, hb6⟩
          have hre : r = false := by cases r with | false => rfl | true => exact absurd HQ.out (hrr.1 rfl).2.2
          subst hre
          clear hrr
          have HX6 := Lib.hid (HX5.out.below hb6 HX5.out.lt)
          have HY6 := Lib.hid (HY5.out.below hb6 HY5.out.lt)
          have HB6 := Lib.hid (HB5.out.trans (hb6.mono HB5.out.size))
          clear hb6
          go_wp2_with fail
          refine (alive32 _).mono ?_
          rintro e wz ⟨rfl, hbz⟩
          go_wp2_with fail
          go_ret
          exact ⟨rfl, HB6.out.trans (hbz.mono HB6.out.size)⟩
        · have HQ := Lib.hid hq
          clear hq
          go_wp2_with (first
            | ((with_reducible refine wpList_load_met 56 (.tmp 7) b0 0 ([sv, cv, .slice p n c]) _ (some 125) (HX5.out).range Tryz.underlying56 rfl sizeHonR ?hg ?ho ?hds ?hx ?_); (case ho | hg | hds | hx => rfl))
            | ((with_reducible refine wpList_load_met 58 (.tmp 9) b1 0 ((⟨2, fa, fb, epoch, fm, ft⟩ : Fnd).cells) _ (some 127) (HY5.out).range Tryz.underlying58 rfl sizeFnd ?hg ?ho ?hds ?hx ?_); (case ho | hg | hds | hx => rfl))
            | fail)
          refine (right32_two key first sv cv (.slice p n c) sl below epoch fa fb fm ft _ (hs.below HB5.out (Nat.le_refl _)) hv2 rfl hsl htm (Nat.le_trans z3 (by decide))).mono ?_
          rintro e w6 ⟨⟨r, rfl, hrr⟩, hb6⟩
          have hre : r = true := hrr.2 ⟨hbl, htg, HQ.out⟩
          subst hre
          clear hrr
          have HX6 := Lib.hid (HX5.out.below hb6 HX5.out.lt)
          have HY6 := Lib.hid (HY5.out.below hb6 HY5.out.lt)
          have HB6 := Lib.hid (HB5.out.trans (hb6.mono HB5.out.size))
          clear hb6
          go_wp2_with fail
          refine (alive32 _).mono ?_
          rintro e wz ⟨rfl, hbz⟩
          go_wp2_with fail
          go_ret
          exact ⟨rfl, HB6.out.trans (hbz.mono HB6.out.size)⟩
      | false =>
        go_wp2_with fail
        refine (rtagged_walk key first epoch ⟨#[109, 97, 99]⟩ fm ft _ (by decide) (by omega)).mono ?_
        rintro e w3 ⟨he, hb3⟩
        rw [show taggedS key first ⟨0, ⟨#[]⟩, ⟨#[]⟩, epoch, fm, ft⟩ (⟨#[109, 97, 99]⟩ : ByteArray).data.toList = false from htg] at he
        subst he
        have HX3 := Lib.hid (HX2.out.below hb3 HX2.out.lt)
        have HY3 := Lib.hid (HY2.out.below hb3 HY2.out.lt)
        have HB3 := Lib.hid (HB2.out.trans (hb3.mono HB2.out.size))
        clear hb3
        go_wp2_with (first
          | ((with_reducible refine wpList_load_met 56 (.tmp 7) b0 0 ([sv, cv, .slice p n c]) _ (some 125) (HX3.out).range Tryz.underlying56 rfl sizeHonR ?hg ?ho ?hds ?hx ?_); (case ho | hg | hds | hx => rfl))
          | ((with_reducible refine wpList_load_met 58 (.tmp 9) b1 0 ((⟨2, fa, fb, epoch, fm, ft⟩ : Fnd).cells) _ (some 127) (HY3.out).range Tryz.underlying58 rfl sizeFnd ?hg ?ho ?hds ?hx ?_); (case ho | hg | hds | hx => rfl))
          | fail)
        refine (right32_two key first sv cv (.slice p n c) sl below epoch fa fb fm ft _ (hs.below HB3.out (Nat.le_refl _)) hv2 rfl hsl htm (Nat.le_trans z3 (by decide))).mono ?_
        rintro e w4 ⟨⟨r, rfl, hrr⟩, hb4⟩
        have hre : r = false := by cases r with | false => rfl | true => exact absurd ((hrr.1 rfl).2.1) (by rw [htg]; decide)
        subst hre
        clear hrr
        have HX4 := Lib.hid (HX3.out.below hb4 HX3.out.lt)
        have HY4 := Lib.hid (HY3.out.below hb4 HY3.out.lt)
        have HB4 := Lib.hid (HB3.out.trans (hb4.mono HB3.out.size))
        clear hb4
        go_wp2_with fail
        refine (alive32 _).mono ?_
        rintro e wz ⟨rfl, hbz⟩
        go_wp2_with fail
        go_ret
        exact ⟨rfl, HB4.out.trans (hbz.mono HB4.out.size)⟩
    · skip
      go_wp2_with (first
        | ((with_reducible refine wpList_load_met 56 (.tmp 7) b0 0 ([sv, cv, .slice p n c]) _ (some 125) (HX2.out).range Tryz.underlying56 rfl sizeHonR ?hg ?ho ?hds ?hx ?_); (case ho | hg | hds | hx => rfl))
        | ((with_reducible refine wpList_load_met 58 (.tmp 9) b1 0 ((⟨2, fa, fb, epoch, fm, ft⟩ : Fnd).cells) _ (some 127) (HY2.out).range Tryz.underlying58 rfl sizeFnd ?hg ?ho ?hds ?hx ?_); (case ho | hg | hds | hx => rfl))
        | fail)
      refine (right32_two key first sv cv (.slice p n c) sl below epoch fa fb fm ft _ (hs.below HB2.out (Nat.le_refl _)) hv2 rfl hsl htm (Nat.le_trans z3 (by decide))).mono ?_
      rintro e w3 ⟨⟨r, rfl, hrr⟩, hb3⟩
      have hre : r = false := by cases r with | false => rfl | true => exact absurd (hrr.1 rfl).1 (by omega)
      subst hre
      clear hrr
      have HX3 := Lib.hid (HX2.out.below hb3 HX2.out.lt)
      have HY3 := Lib.hid (HY2.out.below hb3 HY2.out.lt)
      have HB3 := Lib.hid (HB2.out.trans (hb3.mono HB2.out.size))
      clear hb3
      go_wp2_with fail
      refine (alive32 _).mono ?_
      rintro e wz ⟨rfl, hbz⟩
      go_wp2_with fail
      go_ret
      exact ⟨rfl, HB3.out.trans (hbz.mono HB3.out.size)⟩
  by_cases k3 : kind = 3
  · subst k3
    clear k1 k2
    by_cases hbl : epoch < below
    · cases htg : taggedS key first ⟨3, fa, fb, epoch, fm, ft⟩ [97, 115, 107] with
      | true =>
        go_upto_block 0 with fail
        go_cut [11] from 12 to 122 (fun v wx => ((v = .bool false ∧ ∃ k, SaidAt hl fm.data.toList k) ∨ (v = .bool true ∧ ¬ ∃ k, SaidAt hl fm.data.toList k)) ∧ Blk wx b0 [sv, cv, .slice p n c] 56 ∧ Blk wx b1 (⟨3, fa, fb, epoch, fm, ft⟩ : Fnd).cells 58 ∧ Below w.heap.size w wx)
        case first =>
          go_wp2_with fail
          refine (rtagged_walk key first epoch ⟨#[97, 115, 107]⟩ fm ft _ (by decide) (by omega)).mono ?_
          rintro e w3 ⟨he, hb3⟩
          rw [show taggedS key first ⟨0, ⟨#[]⟩, ⟨#[]⟩, epoch, fm, ft⟩ (⟨#[97, 115, 107]⟩ : ByteArray).data.toList = true from htg] at he
          subst he
          have HX3 := Lib.hid (HX2.out.below hb3 HX2.out.lt)
          have HY3 := Lib.hid (HY2.out.below hb3 HY2.out.lt)
          have HB3 := Lib.hid (HB2.out.trans (hb3.mono HB2.out.size))
          clear hb3
          clear y0 y1 y2 y3 y4 y5
          have y0 := HY3.out.cell (i := 0) rfl
          have y1 := HY3.out.cell (i := 1) rfl
          have y2 := HY3.out.cell (i := 2) rfl
          have y3 := HY3.out.cell (i := 3) rfl
          have y4 := HY3.out.cell (i := 4) rfl
          have y5 := HY3.out.cell (i := 5) rfl
          have x0 := HX3.out.cell (i := 0) rfl
          have x2 := HX3.out.cell (i := 2) rfl
          go_wp2_with fail
          refine (rsaid32_walk (.slice p n c) hl fm _ (hr.below HB3.out) hlen (hft.below HB3.out) hfew).mono ?_
          rintro e w4 ⟨⟨q, rfl, hq⟩, hb4⟩
          have HX4 := Lib.hid (HX3.out.below hb4 HX3.out.lt)
          have HY4 := Lib.hid (HY3.out.below hb4 HY3.out.lt)
          have HB4 := Lib.hid (HB3.out.trans (hb4.mono HB3.out.size))
          clear hb4
          clear x0 x2 y0 y1 y2 y3 y4 y5
          have HQ := Lib.hid hq
          clear hq
          cases q with
          | true =>
            go_wp2_with fail
            go_meet
            exact ⟨.inl ⟨rfl, HQ.out.1 (by trivial)⟩, HX4.out, HY4.out, HB4.out⟩
          | false =>
            go_wp2_with fail
            go_meet
            exact ⟨.inr ⟨rfl, fun h => by have := HQ.out.2 h; cases this⟩, HX4.out, HY4.out, HB4.out⟩
        case rest =>
        obtain ⟨hq, hX5, hY5, hB5⟩ := hcut
        have HX5 := Lib.hid hX5
        have HY5 := Lib.hid hY5
        have HB5 := Lib.hid hB5
        clear hX5 hY5 hB5 y0 y1 y2 y3 y4 y5
        rcases hq with ⟨rfl, hq⟩ | ⟨rfl, hq⟩
        · have HQ := Lib.hid hq
          clear hq
          go_wp2_with (first
            | ((with_reducible refine wpList_load_met 56 (.tmp 7) b0 0 ([sv, cv, .slice p n c]) _ (some 125) (HX5.out).range Tryz.underlying56 rfl sizeHonR ?hg ?ho ?hds ?hx ?_); (case ho | hg | hds | hx => rfl))
            | ((with_reducible refine wpList_load_met 58 (.tmp 9) b1 0 ((⟨3, fa, fb, epoch, fm, ft⟩ : Fnd).cells) _ (some 127) (HY5.out).range Tryz.underlying58 rfl sizeFnd ?hg ?ho ?hds ?hx ?_); (case ho | hg | hds | hx => rfl))
            | fail)
          refine (right32_three key first sv cv (.slice p n c) hl below epoch fa fb fm ft _ (hr.below HB5.out) hv1 hv2 hlen (hft.below HB5.out) hfew (Nat.le_trans z3 (by decide))).mono ?_
          rintro e w6 ⟨⟨r, rfl, hrr⟩, hb6⟩
          have hre : r = false := by cases r with | false => rfl | true => exact absurd HQ.out (hrr.1 rfl).2.2
          subst hre
          clear hrr
          have HX6 := Lib.hid (HX5.out.below hb6 HX5.out.lt)
          have HY6 := Lib.hid (HY5.out.below hb6 HY5.out.lt)
          have HB6 := Lib.hid (HB5.out.trans (hb6.mono HB5.out.size))
          clear hb6
          go_wp2_with fail
          refine (alive32 _).mono ?_
          rintro e wz ⟨rfl, hbz⟩
          go_wp2_with fail
          go_ret
          exact ⟨rfl, HB6.out.trans (hbz.mono HB6.out.size)⟩
        · have HQ := Lib.hid hq
          clear hq
          go_wp2_with (first
            | ((with_reducible refine wpList_load_met 56 (.tmp 7) b0 0 ([sv, cv, .slice p n c]) _ (some 125) (HX5.out).range Tryz.underlying56 rfl sizeHonR ?hg ?ho ?hds ?hx ?_); (case ho | hg | hds | hx => rfl))
            | ((with_reducible refine wpList_load_met 58 (.tmp 9) b1 0 ((⟨3, fa, fb, epoch, fm, ft⟩ : Fnd).cells) _ (some 127) (HY5.out).range Tryz.underlying58 rfl sizeFnd ?hg ?ho ?hds ?hx ?_); (case ho | hg | hds | hx => rfl))
            | fail)
          refine (right32_three key first sv cv (.slice p n c) hl below epoch fa fb fm ft _ (hr.below HB5.out) hv1 hv2 hlen (hft.below HB5.out) hfew (Nat.le_trans z3 (by decide))).mono ?_
          rintro e w6 ⟨⟨r, rfl, hrr⟩, hb6⟩
          have hre : r = true := hrr.2 ⟨hbl, htg, HQ.out⟩
          subst hre
          clear hrr
          have HX6 := Lib.hid (HX5.out.below hb6 HX5.out.lt)
          have HY6 := Lib.hid (HY5.out.below hb6 HY5.out.lt)
          have HB6 := Lib.hid (HB5.out.trans (hb6.mono HB5.out.size))
          clear hb6
          go_wp2_with fail
          refine (alive32 _).mono ?_
          rintro e wz ⟨rfl, hbz⟩
          go_wp2_with fail
          go_ret
          exact ⟨rfl, HB6.out.trans (hbz.mono HB6.out.size)⟩
      | false =>
        go_wp2_with fail
        refine (rtagged_walk key first epoch ⟨#[97, 115, 107]⟩ fm ft _ (by decide) (by omega)).mono ?_
        rintro e w3 ⟨he, hb3⟩
        rw [show taggedS key first ⟨0, ⟨#[]⟩, ⟨#[]⟩, epoch, fm, ft⟩ (⟨#[97, 115, 107]⟩ : ByteArray).data.toList = false from htg] at he
        subst he
        have HX3 := Lib.hid (HX2.out.below hb3 HX2.out.lt)
        have HY3 := Lib.hid (HY2.out.below hb3 HY2.out.lt)
        have HB3 := Lib.hid (HB2.out.trans (hb3.mono HB2.out.size))
        clear hb3
        go_wp2_with (first
          | ((with_reducible refine wpList_load_met 56 (.tmp 7) b0 0 ([sv, cv, .slice p n c]) _ (some 125) (HX3.out).range Tryz.underlying56 rfl sizeHonR ?hg ?ho ?hds ?hx ?_); (case ho | hg | hds | hx => rfl))
          | ((with_reducible refine wpList_load_met 58 (.tmp 9) b1 0 ((⟨3, fa, fb, epoch, fm, ft⟩ : Fnd).cells) _ (some 127) (HY3.out).range Tryz.underlying58 rfl sizeFnd ?hg ?ho ?hds ?hx ?_); (case ho | hg | hds | hx => rfl))
          | fail)
        refine (right32_three key first sv cv (.slice p n c) hl below epoch fa fb fm ft _ (hr.below HB3.out) hv1 hv2 hlen (hft.below HB3.out) hfew (Nat.le_trans z3 (by decide))).mono ?_
        rintro e w4 ⟨⟨r, rfl, hrr⟩, hb4⟩
        have hre : r = false := by cases r with | false => rfl | true => exact absurd ((hrr.1 rfl).2.1) (by rw [htg]; decide)
        subst hre
        clear hrr
        have HX4 := Lib.hid (HX3.out.below hb4 HX3.out.lt)
        have HY4 := Lib.hid (HY3.out.below hb4 HY3.out.lt)
        have HB4 := Lib.hid (HB3.out.trans (hb4.mono HB3.out.size))
        clear hb4
        go_wp2_with fail
        refine (alive32 _).mono ?_
        rintro e wz ⟨rfl, hbz⟩
        go_wp2_with fail
        go_ret
        exact ⟨rfl, HB4.out.trans (hbz.mono HB4.out.size)⟩
    · skip
      go_wp2_with (first
        | ((with_reducible refine wpList_load_met 56 (.tmp 7) b0 0 ([sv, cv, .slice p n c]) _ (some 125) (HX2.out).range Tryz.underlying56 rfl sizeHonR ?hg ?ho ?hds ?hx ?_); (case ho | hg | hds | hx => rfl))
        | ((with_reducible refine wpList_load_met 58 (.tmp 9) b1 0 ((⟨3, fa, fb, epoch, fm, ft⟩ : Fnd).cells) _ (some 127) (HY2.out).range Tryz.underlying58 rfl sizeFnd ?hg ?ho ?hds ?hx ?_); (case ho | hg | hds | hx => rfl))
        | fail)
      refine (right32_three key first sv cv (.slice p n c) hl below epoch fa fb fm ft _ (hr.below HB2.out) hv1 hv2 hlen (hft.below HB2.out) hfew (Nat.le_trans z3 (by decide))).mono ?_
      rintro e w3 ⟨⟨r, rfl, hrr⟩, hb3⟩
      have hre : r = false := by cases r with | false => rfl | true => exact absurd (hrr.1 rfl).1 (by omega)
      subst hre
      clear hrr
      have HX3 := Lib.hid (HX2.out.below hb3 HX2.out.lt)
      have HY3 := Lib.hid (HY2.out.below hb3 HY2.out.lt)
      have HB3 := Lib.hid (HB2.out.trans (hb3.mono HB2.out.size))
      clear hb3
      go_wp2_with fail
      refine (alive32 _).mono ?_
      rintro e wz ⟨rfl, hbz⟩
      go_wp2_with fail
      go_ret
      exact ⟨rfl, HB3.out.trans (hbz.mono HB3.out.size)⟩
  go_wp2_with (first
    | ((with_reducible refine wpList_load_met 56 (.tmp 7) b0 0 ([sv, cv, .slice p n c]) _ (some 125) (HX2.out).range Tryz.underlying56 rfl sizeHonR ?hg ?ho ?hds ?hx ?_); (case ho | hg | hds | hx => rfl))
    | ((with_reducible refine wpList_load_met 58 (.tmp 9) b1 0 ((⟨kind, fa, fb, epoch, fm, ft⟩ : Fnd).cells) _ (some 127) (HY2.out).range Tryz.underlying58 rfl sizeFnd ?hg ?ho ?hds ?hx ?_); (case ho | hg | hds | hx => rfl))
    | fail)
  refine (right32_none key first sv cv (.slice p n c) below kind epoch fa fb fm ft _ hv1 hv2 rfl k1 k2 k3).mono ?_
  rintro e w3 ⟨rfl, hb3⟩
  have HX3 := Lib.hid (HX2.out.below hb3 HX2.out.lt)
  have HY3 := Lib.hid (HY2.out.below hb3 HY2.out.lt)
  have HB3 := Lib.hid (HB2.out.trans (hb3.mono HB2.out.size))
  clear hb3
  go_wp2_with fail
  refine (alive32 _).mono ?_
  rintro e wz ⟨rfl, hbz⟩
  go_wp2_with fail
  go_ret
  exact ⟨rfl, HB3.out.trans (hbz.mono HB3.out.size)⟩
end Go.Proofs.YtidekfbgjghcjaaGreat
