/- Walk of ArmorReceipts: for every receipt and text the law returns true: a receipt as letters, and the receipt of letters, are as the documents say; each leads back. No condition. -/
import Derived.Test.YtgfaadggalnbgaaGreatDoorArmU
import Derived.Test.YtgfaadggalnbgaaGreatDoorG9
import Derived.Test.YtgfaadggalnbgaaGreatDoorLoad
namespace Go.Proofs.YtgfaadggalnbgaaGreatDoor
set_option linter.unusedSimpArgs false
set_option linter.unusedVariables false
open Go Go.RowKit
set_option linter.unusedVariables false

theorem RcpAt.range {w : World} {b : Nat} {x : Rcp} (h : RcpAt w b x) : w.rangeAt b 0 x.cells := fun j u hu => by rw [Nat.zero_add]; exact h.at_ j u hu
theorem RUnEnd.nf {t : List UInt8} {e : Ending} (h : RUnEnd t e) : ∃ X q, e = .returned (.tuple #[X.v, .bool q]) ∧ ((q = true ∧ unrcp t = some X) ∨ (q = false ∧ unrcp t = none ∧ X = Rcp.zero)) := by
  rcases h with ⟨X, h1, h2⟩ | ⟨h1, h2⟩
  · exact ⟨X, true, h2, .inl ⟨rfl, h1⟩⟩
  · exact ⟨_, false, h2, .inr ⟨rfl, h1, rfl⟩⟩
theorem AUnEnd.nf {t : List UInt8} {e : Ending} (h : AUnEnd t e) : ∃ X g, e = .returned (.tuple #[X.v, .int .i64 g]) ∧ ((g = 0 ∧ unrcp t = some X) ∨ (g = 3 ∧ unrcp t = none ∧ X = Rcp.zero)) := by
  rcases h with ⟨X, h1, h2⟩ | ⟨h1, h2⟩
  · exact ⟨X, 0, h2, .inl ⟨rfl, h1⟩⟩
  · exact ⟨_, 3, h2, .inr ⟨rfl, h1, rfl⟩⟩

set_option maxRecDepth 100000 in
set_option maxHeartbeats 8000000 in
theorem armorReceipts_walk (x : Rcp) (t : ByteArray) (w : World) (hx : RcpFits x) :
    Calls Tryz.prog 3 #[x.v, .string t] w fun e w' => e = .returned (.bool true) ∧ Below w.heap.size w w' := by
  cases c2 : fewRcp x with
  | false =>
    have H2 := Lib.hid c2; clear c2
    go_enter Tryz.func3, Tryz.ntmps3
    go_wp2_with (((with_reducible refine wpList_box_new 25 (.tmp 0) x.cells (some 2) ?hgd ?ho ?hd ?hx ?_); (case hgd => rfl); (case ho => rfl); (case hd => rfl); (case hx => rfl); (intro b w0 l0 B0 e0 z0; have R0 := Lib.hid (RcpAt.blk B0); obtain ⟨a0, a1, a2, a3, a4, a5, a6, a7, a8, a9, aA⟩ := R0.out.cells_)))
    clear a0 a1 a2 a3 a4 a5 a6 a7 a8 a9 aA
    refine (few21_walk x _).mono ?_
    rintro e w1 ⟨rfl, hb1⟩
    have R1 := Lib.hid (R0.out.below hb1 z0)
    have HW1 := Lib.hid ((e0.mono l0).trans (hb1.mono (by have := e0.size; omega)))
    clear R0 B0 e0 l0 z0 hb1
    rw [H2.out]
    go_wp2_with fail
    refine (alive39 _).mono ?_
    rintro e wz ⟨rfl, hbz⟩
    go_wp2_with fail
    go_ret
    exact ⟨rfl, HW1.out.trans (hbz.mono HW1.out.size)⟩
  | true =>
    have hsz : x.r.root.size ≤ 5000 ∧ x.r.name.size ≤ 5000 := by
      have h2' := c2
      simp only [fewRcp, fewR, Bool.and_eq_true, decide_eq_true_eq] at h2'
      omega
    have H2 := Lib.hid c2; clear c2
    have HSZ := Lib.hid (show x.r.root.size ≤ 1048576 ∧ x.r.name.size ≤ 1048576 by omega)
    have hwr : wrap64 ((x.r.root.size : Int) + (x.r.name.size : Int)) = (x.r.root.size : Int) + (x.r.name.size : Int) := IntWalk.wrap64_in _ ⟨by omega, by omega⟩
    clear hsz
    by_cases c3 : 1000 < x.r.root.size + x.r.name.size
    · have d3 : (1000 : Int) < (x.r.root.size : Int) + (x.r.name.size : Int) := by omega
      clear c3
      go_enter Tryz.func3, Tryz.ntmps3
      go_wp2_with (((with_reducible refine wpList_box_new 25 (.tmp 0) x.cells (some 2) ?hgd ?ho ?hd ?hx ?_); (case hgd => rfl); (case ho => rfl); (case hd => rfl); (case hx => rfl); (intro b w0 l0 B0 e0 z0; have R0 := Lib.hid (RcpAt.blk B0); obtain ⟨a0, a1, a2, a3, a4, a5, a6, a7, a8, a9, aA⟩ := R0.out.cells_)))
      clear a0 a1 a2 a3 a4 a5 a6 a7 a8 a9 aA
      refine (few21_walk x _).mono ?_
      rintro e w1 ⟨rfl, hb1⟩
      have R1 := Lib.hid (R0.out.below hb1 z0)
      have HW1 := Lib.hid ((e0.mono l0).trans (hb1.mono (by have := e0.size; omega)))
      clear R0 B0 e0 l0 z0 hb1
      rw [H2.out]
      obtain ⟨a0, a1, a2, a3, a4, a5, a6, a7, a8, a9, aA⟩ := R1.out.cells_
      go_wp2_with fail
      refine (alive39 _).mono ?_
      rintro e wz ⟨rfl, hbz⟩
      go_wp2_with fail
      go_ret
      exact ⟨rfl, HW1.out.trans (hbz.mono HW1.out.size)⟩
    have d3 : (x.r.root.size : Int) + (x.r.name.size : Int) ≤ 1000 := by omega
    by_cases c4 : 1500 < t.size
    · have d4 : (1500 : Int) < t.size := by omega
      clear c3 c4
      go_enter Tryz.func3, Tryz.ntmps3
      go_wp2_with (((with_reducible refine wpList_box_new 25 (.tmp 0) x.cells (some 2) ?hgd ?ho ?hd ?hx ?_); (case hgd => rfl); (case ho => rfl); (case hd => rfl); (case hx => rfl); (intro b w0 l0 B0 e0 z0; have R0 := Lib.hid (RcpAt.blk B0); obtain ⟨a0, a1, a2, a3, a4, a5, a6, a7, a8, a9, aA⟩ := R0.out.cells_)))
      clear a0 a1 a2 a3 a4 a5 a6 a7 a8 a9 aA
      refine (few21_walk x _).mono ?_
      rintro e w1 ⟨rfl, hb1⟩
      have R1 := Lib.hid (R0.out.below hb1 z0)
      have HW1 := Lib.hid ((e0.mono l0).trans (hb1.mono (by have := e0.size; omega)))
      clear R0 B0 e0 l0 z0 hb1
      rw [H2.out]
      obtain ⟨a0, a1, a2, a3, a4, a5, a6, a7, a8, a9, aA⟩ := R1.out.cells_
      go_wp2_with fail
      refine (alive39 _).mono ?_
      rintro e wz ⟨rfl, hbz⟩
      go_wp2_with fail
      go_ret
      exact ⟨rfl, HW1.out.trans (hbz.mono HW1.out.size)⟩
    have d4 : (t.size : Int) ≤ 1500 := by omega
    clear c3 c4
    go_enter Tryz.func3, Tryz.ntmps3
    go_wp2_with (((with_reducible refine wpList_box_new 25 (.tmp 0) x.cells (some 2) ?hgd ?ho ?hd ?hx ?_); (case hgd => rfl); (case ho => rfl); (case hd => rfl); (case hx => rfl); (intro b w0 l0 B0 e0 z0; have R0 := Lib.hid (RcpAt.blk B0); obtain ⟨a0, a1, a2, a3, a4, a5, a6, a7, a8, a9, aA⟩ := R0.out.cells_)))
    clear a0 a1 a2 a3 a4 a5 a6 a7 a8 a9 aA
    refine (few21_walk x _).mono ?_
    rintro e w1 ⟨rfl, hb1⟩
    have R1 := Lib.hid (R0.out.below hb1 z0)
    have HW1 := Lib.hid ((e0.mono l0).trans (hb1.mono (by have := e0.size; omega)))
    clear R0 B0 e0 l0 z0 hb1
    rw [H2.out]
    obtain ⟨a0, a1, a2, a3, a4, a5, a6, a7, a8, a9, aA⟩ := R1.out.cells_
    go_wp2_with fail
    clear a0 a1 a2 a3 a4 a5 a6 a7 a8 a9 aA
    clear d3 hwr
    refine (arcp_walk x _ HSZ.out.1 HSZ.out.2 hx.r.epoch hx.seq).mono ?_
    rintro e w3 ⟨he3, hb3⟩
    have R3 := Lib.hid (R1.out.below hb3 R1.out.lt)
    have HW3 := Lib.hid (HW1.out.trans (hb3.mono HW1.out.size))
    clear hb3 R1 HW1
    obtain ⟨p, f, rfl, hpf⟩ : ∃ p f, e = .returned (.tuple #[.string p, .int .i64 f]) ∧ ((rcpOk x = true ∧ f = 0 ∧ Txt p (armPut kindL (rcpPut x))) ∨ (rcpOk x = false ∧ f = 2 ∧ p = ⟨#[]⟩)) := by
      rcases he3 with ⟨h, p, h1, h2⟩ | ⟨h, h1⟩
      · exact ⟨p, 0, h1, .inl ⟨h, rfl, h2⟩⟩
      · exact ⟨_, 2, h1, .inr ⟨by cases hh : rcpOk x <;> simp_all, rfl, rfl⟩⟩
    have HPF := Lib.hid hpf
    clear he3 hpf
    obtain ⟨a0, a1, a2, a3, a4, a5, a6, a7, a8, a9, aA⟩ := R3.out.cells_
    go_wp2_with fail
    clear a0 a1 a2 a3 a4 a5 a6 a7 a8 a9 aA
    refine (rrcpput_walk x _ HSZ.out.1 HSZ.out.2 hx.r.epoch hx.seq).mono ?_
    rintro e w4 ⟨he4, hb4⟩
    have R4 := Lib.hid (R3.out.below hb4 R3.out.lt)
    have HW4 := Lib.hid (HW3.out.trans (hb4.mono HW3.out.size))
    clear hb4 R3 HW3
    obtain ⟨p', rfl, hpt⟩ : ∃ p', e = .returned (.tuple #[.string p', .bool (rcpOk x)]) ∧ Txt p' (if rcpOk x then rcpPut x else []) := by
      rcases he4 with ⟨h, p, h1, h2⟩ | ⟨h, h1⟩
      · rw [h]; exact ⟨p, h1, h2⟩
      · have hh : rcpOk x = false := by cases hh : rcpOk x <;> simp_all
        rw [hh]; exact ⟨_, h1, rfl⟩
    have hps : p'.size ≤ 200 := by
      rw [hpt.size]
      split
      · next h => exact rcpPut_length h
      · simp
    have HPT := Lib.hid hpt
    clear he4 hpt
    go_wp2_with fail
    refine (rarmput_walk ⟨#[114, 101, 99, 101, 105, 112, 116]⟩ p' _ (by decide) (by omega)).mono ?_
    rintro e w5 ⟨he5, hb5⟩
    obtain ⟨q, rfl, tq⟩ := RPutEnd.nf he5 (armOk_kind (s := p'.data.toList) (by have : p'.data.toList.length = p'.size := rfl; omega))
    have R5 := Lib.hid (R4.out.below hb5 R4.out.lt)
    have HW5 := Lib.hid (HW4.out.trans (hb5.mono HW4.out.size))
    have TQ := Lib.hid (show Txt q (armPut kindL p'.data.toList) from tq)
    clear he5 hb5 R4 HW4 hps tq
    rcases HPF.out with ⟨ok, rfl, tp⟩ | ⟨ok, rfl, rfl⟩
    · have hpe : p'.data.toList = rcpPut x := by have := HPT.out; rw [ok, if_pos rfl] at this; exact this
      have s1 : (p.toList == q.toList) = true := tp.same TQ.out (by rw [hpe])
      have hpz : p.size ≤ 16777216 := by
        rw [tp.size]
        have h1 := armPut_length kindL (rcpPut x)
        have h2 := rcpPut_length ok
        have h3 : kindL.length = 7 := rfl
        omega
      have HU := Lib.hid (show unrcp p.data.toList = some x by rw [show p.data.toList = _ from tp]; exact unrcp_put ok)
      clear hpe
      rw [ok]
      clear ok
      go_wp2_with fail
      refine (aunrcp_walk t _ (by omega)).mono ?_
      rintro e w6 ⟨he6, hb6⟩
      have R6 := Lib.hid (R5.out.below hb6 R5.out.lt)
      have HW6 := Lib.hid (HW5.out.trans (hb6.mono HW5.out.size))
      obtain ⟨X, g, rfl, hg⟩ := he6.nf
      have HG := Lib.hid hg
      clear he6 hb6 hg R5 HW5
      go_wp2_with (first
        | ((with_reducible refine wpList_alloc_new 25 Rcp.zero.cells zeroRcp (some 11) ?hgd ?ho ?hd ?_); (case hgd => rfl); (case ho => rfl); (case hd => rfl); (intro b11 w7 l7 B7 e7 z7))
        | ((with_reducible refine wpList_store_new 25 (.tmp 11) (.tmp 58) b11 Rcp.zero.cells X.cells 25 B7 rfl rsizeRcp (Rcp.cells_one _) ?hgd ?ho ?hx ?hy ?_); (case hgd => rfl); (case ho => rfl); (case hx => rfl); (case hy => rfl); (intro w8 B8 o8))
        | fail)
      have hb8 := o8.below (e7.mono l7) l7
      have R8 := Lib.hid (R6.out.below hb8 R6.out.lt)
      have HW8 := Lib.hid (HW6.out.trans (hb8.mono HW6.out.size))
      have G11 := Lib.hid B8
      clear B7 B8 o8 e7 l7 z7 hb8 R6 HW6
      refine (runrcp_walk t _ (by omega)).mono ?_
      rintro e w9 ⟨he9, hb9⟩
      have R9 := Lib.hid (R8.out.below hb9 R8.out.lt)
      have HW9 := Lib.hid (HW8.out.trans (hb9.mono HW8.out.size))
      have H11 := Lib.hid (G11.out.below hb9 G11.out.lt)
      obtain ⟨so, rfl, hso⟩ : ∃ so, e = .returned (.tuple #[X.v, .bool so]) ∧ ((so = true ∧ g = 0) ∨ (so = false ∧ g = 3)) := by
        obtain ⟨Y, so, h1, h2⟩ := he9.nf
        rcases h2 with ⟨h2, h3⟩ | ⟨h2, h3, h4⟩
        · rcases HG.out with ⟨h5, h6⟩ | ⟨h5, h6, _⟩
          · rw [h3] at h6
            injection h6 with h6
            subst h6
            exact ⟨so, h1, .inl ⟨h2, h5⟩⟩
          · rw [h3] at h6; cases h6
        · rcases HG.out with ⟨h5, h6⟩ | ⟨h5, h6, h7⟩
          · rw [h3] at h6; cases h6
          · subst h4 h7
            exact ⟨so, h1, .inr ⟨h2, h5⟩⟩
      clear he9 hb9 R8 HW8 G11
      rcases hso with ⟨rfl, rfl⟩ | ⟨rfl, rfl⟩
      · go_wp2_with (first
          | ((with_reducible refine wpList_alloc_new 25 Rcp.zero.cells zeroRcp (some 13) ?hgd ?ho ?hd ?_); (case hgd => rfl); (case ho => rfl); (case hd => rfl); (intro b13 w10 l10 B10 e10 z10))
          | ((with_reducible refine wpList_store_new 25 (.tmp 13) (.tmp 63) b13 Rcp.zero.cells X.cells 25 B10 rfl rsizeRcp (Rcp.cells_one _) ?hgd ?ho ?hx ?hy ?_); (case hgd => rfl); (case ho => rfl); (case hx => rfl); (case hy => rfl); (intro w11 B11 o11); have hb11 := o11.below (e10.mono l10) l10; have R11 := Lib.hid (R9.out.below hb11 R9.out.lt); have HW11 := Lib.hid (HW9.out.trans (hb11.mono HW9.out.size)); have G11 := Lib.hid (H11.out.below hb11 H11.out.lt); have G13 := Lib.hid B11)
          | ((with_reducible refine wpList_load_met 25 (.tmp 11) b11 0 X.cells _ (some 83) G11.out.range Tryz.underlying25 rfl rsizeRcp ?hg ?ho ?hds ?hx ?_); (case hg => rfl); (case ho => rfl); (case hds => rfl); (case hx => rfl))
          | ((with_reducible refine wpList_load_met 25 (.tmp 13) b13 0 X.cells _ (some 84) G13.out.range Tryz.underlying25 rfl rsizeRcp ?hg ?ho ?hds ?hx ?_); (case hg => rfl); (case ho => rfl); (case hds => rfl); (case hx => rfl))
          | ((with_reducible refine wpList_neq_agg 25 25 (.tmp 83) (.tmp 84) X.cells.toArray X.cells.toArray _ (some 85) guardRcp (eqRcpT X _) ?hgd ?ho ?hd ?hx ?hy ?_); (case hgd => rfl); (case ho => rfl); (case hd => rfl); (case hx => rfl); (case hy => rfl))
          | fail)
        clear s1
        refine (aunrcp_walk p _ hpz).mono ?_
        rintro e w12 ⟨he12, hb12⟩
        have R12 := Lib.hid (R11.out.below hb12 R11.out.lt)
        have HW12 := Lib.hid (HW11.out.trans (hb12.mono HW11.out.size))
        obtain rfl : e = .returned (.tuple #[x.v, .int .i64 0]) := by
          rcases he12 with ⟨Y, h1, h2⟩ | ⟨h1, h2⟩
          · rw [HU.out] at h1
            injection h1 with h1
            subst h1
            exact h2
          · rw [HU.out] at h1; cases h1
        clear he12 hb12
        go_wp2_with (first
          | ((with_reducible refine wpList_alloc_new 25 Rcp.zero.cells zeroRcp (some 15) ?hgd ?ho ?hd ?_); (case hgd => rfl); (case ho => rfl); (case hd => rfl); (intro b15 w13 l13 B13 e13 z13))
          | ((with_reducible refine wpList_store_new 25 (.tmp 15) (.tmp 107) b15 Rcp.zero.cells x.cells 25 B13 rfl rsizeRcp (Rcp.cells_one _) ?hgd ?ho ?hx ?hy ?_); (case hgd => rfl); (case ho => rfl); (case hx => rfl); (case hy => rfl); (intro w14 B14 o14); have hb14 := o14.below (e13.mono l13) l13; have R14 := Lib.hid (R12.out.below hb14 R12.out.lt); have HW14 := Lib.hid (HW12.out.trans (hb14.mono HW12.out.size)); have G15 := Lib.hid B14)
          | ((with_reducible refine wpList_load_met 25 (.tmp 15) b15 0 x.cells _ (some 109) G15.out.range Tryz.underlying25 rfl rsizeRcp ?hg ?ho ?hds ?hx ?_); (case hg => rfl); (case ho => rfl); (case hds => rfl); (case hx => rfl))
          | ((with_reducible refine wpList_load_met 25 (.tmp 2) b 0 x.cells _ (some 110) R14.out.range Tryz.underlying25 rfl rsizeRcp ?hg ?ho ?hds ?hx ?_); (case hg => rfl); (case ho => rfl); (case hds => rfl); (case hx => rfl))
          | ((with_reducible refine wpList_eq_agg 25 25 (.tmp 109) (.tmp 110) x.cells.toArray x.cells.toArray _ (some 111) guardRcp (eqRcpT x _) ?hgd ?ho ?hd ?hx ?hy ?_); (case hgd => rfl); (case ho => rfl); (case hd => rfl); (case hx => rfl); (case hy => rfl))
          | fail)
        refine (alive39 _).mono ?_
        rintro e wz ⟨rfl, hbz⟩
        go_wp2_with fail
        go_ret
        exact ⟨rfl, HW14.out.trans (hbz.mono HW14.out.size)⟩
      · go_wp2_with (first
          | ((with_reducible refine wpList_alloc_new 25 Rcp.zero.cells zeroRcp (some 13) ?hgd ?ho ?hd ?_); (case hgd => rfl); (case ho => rfl); (case hd => rfl); (intro b13 w10 l10 B10 e10 z10))
          | ((with_reducible refine wpList_store_new 25 (.tmp 13) (.tmp 63) b13 Rcp.zero.cells X.cells 25 B10 rfl rsizeRcp (Rcp.cells_one _) ?hgd ?ho ?hx ?hy ?_); (case hgd => rfl); (case ho => rfl); (case hx => rfl); (case hy => rfl); (intro w11 B11 o11); have hb11 := o11.below (e10.mono l10) l10; have R11 := Lib.hid (R9.out.below hb11 R9.out.lt); have HW11 := Lib.hid (HW9.out.trans (hb11.mono HW9.out.size)); have G11 := Lib.hid (H11.out.below hb11 H11.out.lt); have G13 := Lib.hid B11)
          | ((with_reducible refine wpList_load_met 25 (.tmp 11) b11 0 X.cells _ (some 83) G11.out.range Tryz.underlying25 rfl rsizeRcp ?hg ?ho ?hds ?hx ?_); (case hg => rfl); (case ho => rfl); (case hds => rfl); (case hx => rfl))
          | ((with_reducible refine wpList_load_met 25 (.tmp 13) b13 0 X.cells _ (some 84) G13.out.range Tryz.underlying25 rfl rsizeRcp ?hg ?ho ?hds ?hx ?_); (case hg => rfl); (case ho => rfl); (case hds => rfl); (case hx => rfl))
          | ((with_reducible refine wpList_neq_agg 25 25 (.tmp 83) (.tmp 84) X.cells.toArray X.cells.toArray _ (some 85) guardRcp (eqRcpT X _) ?hgd ?ho ?hd ?hx ?hy ?_); (case hgd => rfl); (case ho => rfl); (case hd => rfl); (case hx => rfl); (case hy => rfl))
          | fail)
        clear s1
        refine (aunrcp_walk p _ hpz).mono ?_
        rintro e w12 ⟨he12, hb12⟩
        have R12 := Lib.hid (R11.out.below hb12 R11.out.lt)
        have HW12 := Lib.hid (HW11.out.trans (hb12.mono HW11.out.size))
        obtain rfl : e = .returned (.tuple #[x.v, .int .i64 0]) := by
          rcases he12 with ⟨Y, h1, h2⟩ | ⟨h1, h2⟩
          · rw [HU.out] at h1
            injection h1 with h1
            subst h1
            exact h2
          · rw [HU.out] at h1; cases h1
        clear he12 hb12
        go_wp2_with (first
          | ((with_reducible refine wpList_alloc_new 25 Rcp.zero.cells zeroRcp (some 15) ?hgd ?ho ?hd ?_); (case hgd => rfl); (case ho => rfl); (case hd => rfl); (intro b15 w13 l13 B13 e13 z13))
          | ((with_reducible refine wpList_store_new 25 (.tmp 15) (.tmp 107) b15 Rcp.zero.cells x.cells 25 B13 rfl rsizeRcp (Rcp.cells_one _) ?hgd ?ho ?hx ?hy ?_); (case hgd => rfl); (case ho => rfl); (case hx => rfl); (case hy => rfl); (intro w14 B14 o14); have hb14 := o14.below (e13.mono l13) l13; have R14 := Lib.hid (R12.out.below hb14 R12.out.lt); have HW14 := Lib.hid (HW12.out.trans (hb14.mono HW12.out.size)); have G15 := Lib.hid B14)
          | ((with_reducible refine wpList_load_met 25 (.tmp 15) b15 0 x.cells _ (some 109) G15.out.range Tryz.underlying25 rfl rsizeRcp ?hg ?ho ?hds ?hx ?_); (case hg => rfl); (case ho => rfl); (case hds => rfl); (case hx => rfl))
          | ((with_reducible refine wpList_load_met 25 (.tmp 2) b 0 x.cells _ (some 110) R14.out.range Tryz.underlying25 rfl rsizeRcp ?hg ?ho ?hds ?hx ?_); (case hg => rfl); (case ho => rfl); (case hds => rfl); (case hx => rfl))
          | ((with_reducible refine wpList_eq_agg 25 25 (.tmp 109) (.tmp 110) x.cells.toArray x.cells.toArray _ (some 111) guardRcp (eqRcpT x _) ?hgd ?ho ?hd ?hx ?hy ?_); (case hgd => rfl); (case ho => rfl); (case hd => rfl); (case hx => rfl); (case hy => rfl))
          | fail)
        refine (alive39 _).mono ?_
        rintro e wz ⟨rfl, hbz⟩
        go_wp2_with fail
        go_ret
        exact ⟨rfl, HW14.out.trans (hbz.mono HW14.out.size)⟩
    · rw [ok]
      clear ok
      go_wp2_with fail
      refine (aunrcp_walk t _ (by omega)).mono ?_
      rintro e w6 ⟨he6, hb6⟩
      have R6 := Lib.hid (R5.out.below hb6 R5.out.lt)
      have HW6 := Lib.hid (HW5.out.trans (hb6.mono HW5.out.size))
      obtain ⟨X, g, rfl, hg⟩ := he6.nf
      have HG := Lib.hid hg
      clear he6 hb6 hg R5 HW5
      go_wp2_with (first
        | ((with_reducible refine wpList_alloc_new 25 Rcp.zero.cells zeroRcp (some 11) ?hgd ?ho ?hd ?_); (case hgd => rfl); (case ho => rfl); (case hd => rfl); (intro b11 w7 l7 B7 e7 z7))
        | ((with_reducible refine wpList_store_new 25 (.tmp 11) (.tmp 58) b11 Rcp.zero.cells X.cells 25 B7 rfl rsizeRcp (Rcp.cells_one _) ?hgd ?ho ?hx ?hy ?_); (case hgd => rfl); (case ho => rfl); (case hx => rfl); (case hy => rfl); (intro w8 B8 o8))
        | fail)
      have hb8 := o8.below (e7.mono l7) l7
      have R8 := Lib.hid (R6.out.below hb8 R6.out.lt)
      have HW8 := Lib.hid (HW6.out.trans (hb8.mono HW6.out.size))
      have G11 := Lib.hid B8
      clear B7 B8 o8 e7 l7 z7 hb8 R6 HW6
      refine (runrcp_walk t _ (by omega)).mono ?_
      rintro e w9 ⟨he9, hb9⟩
      have R9 := Lib.hid (R8.out.below hb9 R8.out.lt)
      have HW9 := Lib.hid (HW8.out.trans (hb9.mono HW8.out.size))
      have H11 := Lib.hid (G11.out.below hb9 G11.out.lt)
      obtain ⟨so, rfl, hso⟩ : ∃ so, e = .returned (.tuple #[X.v, .bool so]) ∧ ((so = true ∧ g = 0) ∨ (so = false ∧ g = 3)) := by
        obtain ⟨Y, so, h1, h2⟩ := he9.nf
        rcases h2 with ⟨h2, h3⟩ | ⟨h2, h3, h4⟩
        · rcases HG.out with ⟨h5, h6⟩ | ⟨h5, h6, _⟩
          · rw [h3] at h6
            injection h6 with h6
            subst h6
            exact ⟨so, h1, .inl ⟨h2, h5⟩⟩
          · rw [h3] at h6; cases h6
        · rcases HG.out with ⟨h5, h6⟩ | ⟨h5, h6, h7⟩
          · rw [h3] at h6; cases h6
          · subst h4 h7
            exact ⟨so, h1, .inr ⟨h2, h5⟩⟩
      clear he9 hb9 R8 HW8 G11
      rcases hso with ⟨rfl, rfl⟩ | ⟨rfl, rfl⟩
      · go_wp2_with (first
          | ((with_reducible refine wpList_alloc_new 25 Rcp.zero.cells zeroRcp (some 13) ?hgd ?ho ?hd ?_); (case hgd => rfl); (case ho => rfl); (case hd => rfl); (intro b13 w10 l10 B10 e10 z10))
          | ((with_reducible refine wpList_store_new 25 (.tmp 13) (.tmp 63) b13 Rcp.zero.cells X.cells 25 B10 rfl rsizeRcp (Rcp.cells_one _) ?hgd ?ho ?hx ?hy ?_); (case hgd => rfl); (case ho => rfl); (case hx => rfl); (case hy => rfl); (intro w11 B11 o11); have hb11 := o11.below (e10.mono l10) l10; have R11 := Lib.hid (R9.out.below hb11 R9.out.lt); have HW11 := Lib.hid (HW9.out.trans (hb11.mono HW9.out.size)); have G11 := Lib.hid (H11.out.below hb11 H11.out.lt); have G13 := Lib.hid B11)
          | ((with_reducible refine wpList_load_met 25 (.tmp 11) b11 0 X.cells _ (some 83) G11.out.range Tryz.underlying25 rfl rsizeRcp ?hg ?ho ?hds ?hx ?_); (case hg => rfl); (case ho => rfl); (case hds => rfl); (case hx => rfl))
          | ((with_reducible refine wpList_load_met 25 (.tmp 13) b13 0 X.cells _ (some 84) G13.out.range Tryz.underlying25 rfl rsizeRcp ?hg ?ho ?hds ?hx ?_); (case hg => rfl); (case ho => rfl); (case hds => rfl); (case hx => rfl))
          | ((with_reducible refine wpList_neq_agg 25 25 (.tmp 83) (.tmp 84) X.cells.toArray X.cells.toArray _ (some 85) guardRcp (eqRcpT X _) ?hgd ?ho ?hd ?hx ?hy ?_); (case hgd => rfl); (case ho => rfl); (case hd => rfl); (case hx => rfl); (case hy => rfl))
          | fail)
        refine (alive39 _).mono ?_
        rintro e wz ⟨rfl, hbz⟩
        go_wp2_with fail
        go_ret
        exact ⟨rfl, HW11.out.trans (hbz.mono HW11.out.size)⟩
      · go_wp2_with (first
          | ((with_reducible refine wpList_alloc_new 25 Rcp.zero.cells zeroRcp (some 13) ?hgd ?ho ?hd ?_); (case hgd => rfl); (case ho => rfl); (case hd => rfl); (intro b13 w10 l10 B10 e10 z10))
          | ((with_reducible refine wpList_store_new 25 (.tmp 13) (.tmp 63) b13 Rcp.zero.cells X.cells 25 B10 rfl rsizeRcp (Rcp.cells_one _) ?hgd ?ho ?hx ?hy ?_); (case hgd => rfl); (case ho => rfl); (case hx => rfl); (case hy => rfl); (intro w11 B11 o11); have hb11 := o11.below (e10.mono l10) l10; have R11 := Lib.hid (R9.out.below hb11 R9.out.lt); have HW11 := Lib.hid (HW9.out.trans (hb11.mono HW9.out.size)); have G11 := Lib.hid (H11.out.below hb11 H11.out.lt); have G13 := Lib.hid B11)
          | ((with_reducible refine wpList_load_met 25 (.tmp 11) b11 0 X.cells _ (some 83) G11.out.range Tryz.underlying25 rfl rsizeRcp ?hg ?ho ?hds ?hx ?_); (case hg => rfl); (case ho => rfl); (case hds => rfl); (case hx => rfl))
          | ((with_reducible refine wpList_load_met 25 (.tmp 13) b13 0 X.cells _ (some 84) G13.out.range Tryz.underlying25 rfl rsizeRcp ?hg ?ho ?hds ?hx ?_); (case hg => rfl); (case ho => rfl); (case hds => rfl); (case hx => rfl))
          | ((with_reducible refine wpList_neq_agg 25 25 (.tmp 83) (.tmp 84) X.cells.toArray X.cells.toArray _ (some 85) guardRcp (eqRcpT X _) ?hgd ?ho ?hd ?hx ?hy ?_); (case hgd => rfl); (case ho => rfl); (case hd => rfl); (case hx => rfl); (case hy => rfl))
          | fail)
        refine (alive39 _).mono ?_
        rintro e wz ⟨rfl, hbz⟩
        go_wp2_with fail
        go_ret
        exact ⟨rfl, HW11.out.trans (hbz.mono HW11.out.size)⟩
end Go.Proofs.YtgfaadggalnbgaaGreatDoor
