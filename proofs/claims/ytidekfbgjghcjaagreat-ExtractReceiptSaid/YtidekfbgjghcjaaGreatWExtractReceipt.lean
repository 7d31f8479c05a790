/- Walk of ExtractReceipt: for every root, first epoch, sealed records, receipt and epoch the law returns true. No condition. -/
import Derived.Test.YtidekfbgjghcjaaGreatExt5
import Derived.Test.YtidekfbgjghcjaaGreatWReceiptSound
import Derived.Test.YtidekfbgjghcjaaGreatTakeRef3
import Derived.Test.YtidekfbgjghcjaaGreatG9
namespace Go.Proofs.YtidekfbgjghcjaaGreat
set_option linter.unusedSimpArgs false
set_option linter.unusedVariables false
open Go Go.RowKit
set_option linter.unusedVariables false

theorem zeroHon32 (w : World) : Sem.run Tryz.prog (zeroValue 56) w = .ok (.agg #[.slice none 0 0, .slice none 0 0, .slice none 0 0]) w := by kernel_rfl
theorem sizeHon32 {a b c : Value} : (Tryz.prog.info? 56).map (·.size) = some [a, b, c].length := by kernel_rfl
theorem honOne32 (p : Option Addr) (n c : Nat) : ∀ v ∈ ([.slice p n c, .slice none 0 0, .slice none 0 0] : List Value), v.oneCell' = true := by intro v hv; simp at hv; rcases hv with rfl | rfl <;> rfl
set_option maxRecDepth 100000 in
set_option maxHeartbeats 4000000 in
theorem extractReceipt_few (root : ByteArray) (first : Int) (v : Value) (l : List Sld) (x : Rcp) (below : Int) (w : World) (h : SldRow w v l) (hx : RcpFits x) (hf : ¬ (fewS l = true ∧ fewRcp x = true ∧ rchkS root first x = 0 ∧ x.r.epoch - first ≤ 40)) :
    Calls Tryz.prog 5 #[.string root, .int .i64 first, v, x.v, .int .i64 below] w fun e w' => e = .returned (.bool true) ∧ Below w.heap.size w w' := by
  obtain ⟨p, c, rfl⟩ := h.shape
  obtain ⟨n, hn⟩ : ∃ n, n = l.length := ⟨_, rfl⟩
  rw [← hn] at h ⊢
  have HR := Lib.hid h; clear h hn
  have HF := Lib.hid hf; clear hf
  go_enter Tryz.func5, Tryz.ntmps5
  go_wp2_with ((with_reducible refine wpList_box_new 37 (.tmp 3) x.cells (some 8) ?hgd ?ho ?hd ?hx ?_); (case hgd => rfl); (case ho => rfl); (case hd => rfl); (case hx => rfl); (intro b w0 l0 B0 e0 z0; have R0 := Lib.hid (RcpAt.blk B0)))
  refine (few20_walk _ l _ (HR.out.below e0 l0)).mono ?_
  rintro e w1 ⟨rfl, hb1⟩
  have R1 := Lib.hid (R0.out.below hb1 z0)
  obtain ⟨a0, a1, a2, a3, a4, a5, a6, a7, a8, a9, aA⟩ := R1.out.cells_
  have hbw := (e0.mono l0).trans (hb1.mono (by have := e0.size; omega))
  cases h1 : fewS l with
  | false =>
    have H1 := Lib.hid h1; clear h1
    clear a0 a1 a2 a3 a4 a5 a6 a7 a8 a9 aA
    go_wp2_with fail
    refine (alive32 _).mono ?_
    rintro e w3 ⟨rfl, hb3⟩
    go_wp2_with fail
    go_ret
    exact ⟨rfl, hbw.trans (hb3.mono hbw.size)⟩
  | true =>
    have H1 := Lib.hid h1; clear h1
    go_wp2_with fail
    clear a0 a1 a2 a3 a4 a5 a6 a7 a8 a9 aA
    refine (few21_walk x _).mono ?_
    rintro e w2 ⟨rfl, hb2⟩
    have hbw2 := hbw.trans (hb2.mono hbw.size)
    cases h2 : fewRcp x with
    | false =>
      have H2 := Lib.hid h2; clear h2
      go_wp2_with fail
      refine (alive32 _).mono ?_
      rintro e w3 ⟨rfl, hb3⟩
      go_wp2_with fail
      go_ret
      exact ⟨rfl, hbw2.trans (hb3.mono hbw2.size)⟩
    | true =>
      have hs : x.r.root.size ≤ 1048576 ∧ x.r.name.size ≤ 1048576 := by
        have h2' := h2
        simp only [fewRcp, fewR, Bool.and_eq_true, decide_eq_true_eq] at h2'
        omega
      have HSZ := Lib.hid hs; clear hs
      have H2 := Lib.hid h2; clear h2
      have R2 := Lib.hid (R1.out.below hb2 R1.out.lt)
      obtain ⟨a0, a1, a2, a3, a4, a5, a6, a7, a8, a9, aA⟩ := R2.out.cells_
      go_wp2_with fail
      clear a0 a1 a2 a3 a4 a5 a6 a7 a8 a9 aA
      refine (rrcheck21_walk root first x _ HSZ.out.1 HSZ.out.2 hx.r.epoch hx.seq).mono ?_
      rintro e w3 ⟨rfl, hb3⟩
      have hbw3 := hbw2.trans (hb3.mono hbw2.size)
      obtain ⟨_, _, a2, _, _, _, _, _, _, _, _⟩ := (R2.out.below hb3 R2.out.lt).cells_
      by_cases h3 : rchkS root first x = 0
      · obtain ⟨g1, g2, g3, g4, g5, g6⟩ := rchkS_ok h3
        have h4 : 40 < x.r.epoch - first := by
          by_cases hh : x.r.epoch - first ≤ 40
          · exact absurd ⟨H1.out, H2.out, h3, hh⟩ HF.out
          · omega
        have hrr := (rcpOk_rec g2).2
        obtain ⟨r1, r2⟩ := hrr
        rw [h3]
        clear h3 g1 g2 g6
        go_wp2_with fail
        refine (alive32 _).mono ?_
        rintro e w4 ⟨rfl, hb4⟩
        go_wp2_with fail
        go_ret
        exact ⟨rfl, hbw3.trans (hb4.mono hbw3.size)⟩
      · clear a2
        go_wp2_with fail
        refine (alive32 _).mono ?_
        rintro e w4 ⟨rfl, hb4⟩
        go_wp2_with fail
        go_ret
        exact ⟨rfl, hbw3.trans (hb4.mono hbw3.size)⟩


set_option maxRecDepth 100000 in
set_option maxHeartbeats 1500000 in
theorem extractReceipt_walk (root : ByteArray) (first : Int) (v : Value) (l : List Sld) (x : Rcp) (below : Int) (w : World) (h : SldRow w v l) (hx : RcpFits x) (hl : l.length ≤ 1048576) (ht : SldTame l) (hf1 : fewS l = true) (hf2 : fewRcp x = true) (hf3 : rchkS root first x = 0) (hf4 : x.r.epoch - first ≤ 40) :
    Calls Tryz.prog 5 #[.string root, .int .i64 first, v, x.v, .int .i64 below] w fun e w' => e = .returned (.bool true) ∧ Below w.heap.size w w' := by
  obtain ⟨p, c, rfl⟩ := h.shape
  obtain ⟨n, hn⟩ : ∃ n, n = l.length := ⟨_, rfl⟩
  rw [← hn] at h ⊢
  have hn2 : n ≤ 1048576 := by omega
  have HS := Lib.hid h; clear h
  have HN := Lib.hid hn; clear hn
  have HL := Lib.hid hl; clear hl
  have HT := Lib.hid ht; clear ht
  have H1 := Lib.hid hf1; clear hf1
  have hs : x.r.root.size ≤ 1048576 ∧ x.r.name.size ≤ 1048576 ∧ x.was.size ≤ 1048576 := by
    have h2' := hf2
    simp only [fewRcp, fewR, Bool.and_eq_true, decide_eq_true_eq] at h2'
    omega
  have HSZ := Lib.hid hs; clear hs
  have H2 := Lib.hid hf2; clear hf2
  obtain ⟨g1, g2, g3, g4, g5, g6⟩ := rchkS_ok hf3
  obtain ⟨r1, r2⟩ := (rcpOk_rec g2).2
  have H3 := Lib.hid hf3; clear hf3
  have G2 := Lib.hid g2; clear g2
  have GE := Lib.hid (show 0 ≤ x.r.epoch ∧ x.r.epoch ≤ 4294967295 ∧ first ≤ x.r.epoch ∧ 0 ≤ first ∧ root.data.toList.length = 32 ∧ x.r.epoch - first ≤ 4096 from ⟨by omega, by omega, g3, g4, g1, g5⟩)
  have G6 := Lib.hid g6; clear g1 g6
  obtain ⟨t, htt⟩ : ∃ t, checkS root first l = t := ⟨_, rfl⟩
  have HTT := Lib.hid htt; clear htt
  obtain ⟨a, b', er⟩ := t
  obtain ⟨ms, hms⟩ : ∃ ms, makeS l x.seq = ms := ⟨_, rfl⟩
  have HM := Lib.hid hms; clear hms
  obtain ⟨own, er2⟩ := ms
  go_enter Tryz.func5, Tryz.ntmps5
  go_wp2_with ((with_reducible refine wpList_box_new 37 (.tmp 3) x.cells (some 8) ?hgd ?ho ?hd ?hx ?_); (case hgd => rfl); (case ho => rfl); (case hd => rfl); (case hx => rfl); (intro b0 w0 l0 B0 e0 z0))
  have HX0 := Lib.hid B0
  have HB0 := Lib.hid (show Below w.heap.size w w0 from e0.mono l0)
  clear B0 e0 l0 z0
  refine (few20_walk _ l _ (HS.out.below HB0.out (Nat.le_refl _))).mono ?_
  rintro e w1 ⟨rfl, hb1⟩
  rw [H1.out]
  have HX1 := Lib.hid (HX0.out.below hb1 HX0.out.lt)
  have HB1 := Lib.hid (HB0.out.trans (hb1.mono HB0.out.size))
  clear hb1
  go_wp2_with (first
    | ((with_reducible refine wpList_load_met 37 (.tmp 8) b0 0 (x.cells) _ (some 22) (HX1.out).range Tryz.underlying37 rfl rsizeRcp ?hg ?ho ?hds ?hx ?_); (case ho => rfl); (case hg => rfl); (case hds => rfl); (case hx => rfl))
    | fail)
  refine (few21_walk x _).mono ?_
  rintro e w2 ⟨rfl, hb2⟩
  rw [H2.out]
  have HX2 := Lib.hid (HX1.out.below hb2 HX1.out.lt)
  have HB2 := Lib.hid (HB1.out.trans (hb2.mono HB1.out.size))
  clear hb2
  go_wp2_with (first
    | ((with_reducible refine wpList_load_met 37 (.tmp 8) b0 0 (x.cells) _ (some 29) (HX2.out).range Tryz.underlying37 rfl rsizeRcp ?hg ?ho ?hds ?hx ?_); (case ho => rfl); (case hg => rfl); (case hds => rfl); (case hx => rfl))
    | fail)
  refine (rrcheck21_walk root first x _ HSZ.out.1 HSZ.out.2.1 hx.r.epoch hx.seq).mono ?_
  rintro e w3 ⟨rfl, hb3⟩
  rw [H3.out]
  have HX3 := Lib.hid (HX2.out.below hb3 HX2.out.lt)
  have HB3 := Lib.hid (HB2.out.trans (hb3.mono HB2.out.size))
  clear hb3
  have x2 := HX3.out.cell (i := 2) rfl
  go_wp2_with fail
  clear x2
  refine (ccheck_walk root first _ l _ (HS.out.below HB3.out (Nat.le_refl _)) HL.out (fun j y hy => ⟨(HT.out j y hy).1, (HT.out j y hy).2.2.2⟩)).mono ?_
  rintro e w4 ⟨he, hb4⟩
  unfold CheckEnd at he
  rw [HTT.out] at he
  subst he
  have HX4 := Lib.hid (HX3.out.below hb4 HX3.out.lt)
  have HB4 := Lib.hid (HB3.out.trans (hb4.mono HB3.out.size))
  clear hb4
  by_cases her : er = 0
  rotate_left
  · go_wp2_with fail
    refine (alive32 _).mono ?_
    rintro e wz ⟨rfl, hbz⟩
    go_wp2_with fail
    go_ret
    exact ⟨rfl, HB4.out.trans (hbz.mono HB4.out.size)⟩
  subst her
  obtain ⟨k1, k2, _⟩ := checkS_ok (root := root) (first := first) (l := l) (by rw [HTT.out])
  have HRR : Hid (RightRow root first l) := Lib.hid ⟨k1, k2⟩
  clear k1 k2
  go_wp2_with (first
    | ((with_reducible refine wpList_build_eq 56 ?parts ([.slice p n c, .slice none 0 0, .slice none 0 0]) ?hg ?ho ?hf ?_); (case hg => rfl); (case ho => rfl); (case hf => kernel_rfl))
    | ((with_reducible refine wpList_alloc_new 56 ([.slice none 0 0, .slice none 0 0, .slice none 0 0]) zeroHon32 (some 14) ?hgd ?ho ?hd ?_); (case hgd => rfl); (case ho => rfl); (case hd => rfl); (intro b5 w5 l5 B5 e5 z5))
    | ((with_reducible refine wpList_store_new 56 (.tmp 14) (.tmp 54) b5 ([.slice none 0 0, .slice none 0 0, .slice none 0 0]) ([.slice p n c, .slice none 0 0, .slice none 0 0]) 56 B5 rfl sizeHon32 (honOne32 _ _ _) ?hgd ?ho ?hx ?hy ?_); (case hgd => rfl); (case ho => rfl); (case hx => rfl); (case hy => rfl); (intro w6 B6 o6); have X6 := o6.blk (HX4.out.below e5 (Nat.lt_of_lt_of_le HX4.out.lt l5)) (by have := HX4.out.lt; omega))
    | ((with_reducible refine wpList_load_met 56 (.tmp 14) b5 0 ([.slice p n c, .slice none 0 0, .slice none 0 0]) _ (some 55) (B6).range Tryz.underlying56 rfl sizeHon32 ?hg ?ho ?hds ?hx ?_); (case ho => rfl); (case hg => rfl); (case hds => rfl); (case hx => rfl))
    | ((with_reducible refine wpList_load_met 37 (.tmp 8) b0 0 (x.cells) _ (some 57) (X6).range Tryz.underlying37 rfl rsizeRcp ?hg ?ho ?hds ?hx ?_); (case ho => rfl); (case hg => rfl); (case hds => rfl); (case hx => rfl))
    | fail)
  have hb6 : Below w4.heap.size w4 w6 := o6.below (e5.mono l5) l5
  have HX6 := Lib.hid X6
  have HY6 := Lib.hid B6
  have HB6 := Lib.hid (HB4.out.trans (hb6.mono HB4.out.size))
  clear X6 B5 B6 o6 e5 l5 z5 hb6
  refine (ercp32_walk _ (.slice none 0 0) (.slice none 0 0) l below x _ (HS.out.below HB6.out (Nat.le_refl _)) rfl rfl HL.out HT.out HSZ.out.1 HSZ.out.2.1 hx.r.epoch hx.seq).mono ?_
  rintro e w7 ⟨he, hb7⟩
  have HX7 := Lib.hid (HX6.out.below hb7 HX6.out.lt)
  have HY7 := Lib.hid (HY6.out.below hb7 HY6.out.lt)
  have HB7 := Lib.hid (HB6.out.trans (hb7.mono HB6.out.size))
  clear hb7
  cases hof : ofS l x with
  | true =>
    have HOF := Lib.hid hof; clear hof
    have hfs : forgeS l x = false := by unfold forgeS; rw [HOF.out]; simp
    rcases he with ⟨h, _⟩ | ⟨_, rfl⟩
    · rw [hfs] at h; simp at h
    clear hfs
    have hown : er2 = 0 ∧ own = x := by
      have := HOF.out
      unfold ofS at this
      rw [HM.out] at this
      simpa using this
    obtain ⟨he0, he1⟩ := hown
    have he2 : x = own := he1.symm
    subst he0 he2
    clear he1
    go_wp2_with (first
      | ((with_reducible refine wpList_alloc_new 58 (Fnd.zero.cells) zeroFnd (some 15) ?hgd ?ho ?hd ?_); (case hgd => rfl); (case ho => rfl); (case hd => rfl); (intro b8 w8 l8 B8 e8 z8))
      | ((with_reducible refine wpList_store_new 58 (.tmp 15) (.tmp 58) b8 (Fnd.zero.cells) (Fnd.zero.cells) 58 B8 rfl sizeFnd (Fnd.cells_one _) ?hgd ?ho ?hx ?hy ?_); (case hgd => rfl); (case ho => rfl); (case hx => rfl); (case hy => rfl); (intro w9 B9 o9); have X9 := o9.blk (HX7.out.below e8 (Nat.lt_of_lt_of_le HX7.out.lt l8)) (by have := HX7.out.lt; omega); have Y9 := o9.blk (HY7.out.below e8 (Nat.lt_of_lt_of_le HY7.out.lt l8)) (by have := HY7.out.lt; omega); have x90 := X9.cell (i := 0) rfl)
      | fail)
    have hb9 : Below w7.heap.size w7 w9 := o9.below (e8.mono l8) l8
    have HX9 := Lib.hid X9
    have HY9 := Lib.hid Y9
    have HF9 := Lib.hid B9
    have HB9 := Lib.hid (HB7.out.trans (hb9.mono HB7.out.size))
    clear X9 Y9 B8 B9 o9 e8 l8 z8 hb9 x90
    refine (rmake_walk _ l x.seq _ (HS.out.below HB9.out (Nat.le_refl _)) HL.out HT.out).mono ?_
    rintro e wA ⟨he, hbA⟩
    unfold MakeEnd at he
    rw [HM.out] at he
    subst he
    have HXA := Lib.hid (HX9.out.below hbA HX9.out.lt)
    have HYA := Lib.hid (HY9.out.below hbA HY9.out.lt)
    have HFA := Lib.hid (HF9.out.below hbA HF9.out.lt)
    have HBA := Lib.hid (HB9.out.trans (hbA.mono HB9.out.size))
    clear hbA
    go_upto_region 9 with (first
      | ((with_reducible refine wpList_alloc_new 37 (Rcp.zero.cells) zeroRcp (some 16) ?hgd ?ho ?hd ?_); (case hgd => rfl); (case ho => rfl); (case hd => rfl); (intro bB wB lB BB eB zB))
      | ((with_reducible refine wpList_store_new 37 (.tmp 16) (.tmp 64) bB (Rcp.zero.cells) (x.cells) 37 BB rfl rsizeRcp (Rcp.cells_one _) ?hgd ?ho ?hx ?hy ?_); (case hgd => rfl); (case ho => rfl); (case hx => rfl); (case hy => rfl); (intro wC BC oC))
      | fail)
    have XC := oC.blk (HXA.out.below eB (Nat.lt_of_lt_of_le HXA.out.lt lB)) (by have := HXA.out.lt; omega)
    have YC := oC.blk (HYA.out.below eB (Nat.lt_of_lt_of_le HYA.out.lt lB)) (by have := HYA.out.lt; omega)
    have FC := oC.blk (HFA.out.below eB (Nat.lt_of_lt_of_le HFA.out.lt lB)) (by have := HFA.out.lt; omega)
    have hbC : Below wA.heap.size wA wC := oC.below (eB.mono lB) lB
    have HXC := Lib.hid XC
    have HYC := Lib.hid YC
    have HFC := Lib.hid FC
    have HWC := Lib.hid BC
    have HBC := Lib.hid (HBA.out.trans (hbC.mono HBA.out.size))
    clear XC YC FC BB BC oC eB lB zB hbC
    have x2 := HXC.out.cell (i := 2) rfl
    go_wp2_with (first
      | ((with_reducible refine wpList_load_met 37 (.tmp 16) bB 0 (x.cells) _ (some 69) (HWC.out).range Tryz.underlying37 rfl rsizeRcp ?hg ?ho ?hds ?hx ?_); (case ho => rfl); (case hg => rfl); (case hds => rfl); (case hx => rfl))
      | ((with_reducible refine wpList_load_met 37 (.tmp 8) b0 0 (x.cells) _ (some 70) (HXC.out).range Tryz.underlying37 rfl rsizeRcp ?hg ?ho ?hds ?hx ?_); (case ho => rfl); (case hg => rfl); (case hds => rfl); (case hx => rfl))
      | ((with_reducible refine wpList_eq_agg 37 37 (.tmp 69) (.tmp 70) (x.cells).toArray (x.cells).toArray _ (some 71) guardRcp (eqRcpT _ _) ?hgd ?ho ?hd ?hx ?hy ?_); (case hgd => rfl); (case ho => rfl); (case hd => rfl); (case hx => rfl); (case hy => rfl))
      | ((with_reducible refine wpList_load_met 58 (.tmp 15) b8 0 (Fnd.zero.cells) _ (some 80) (HFC.out).range Tryz.underlying58 rfl sizeFnd ?hg ?ho ?hds ?hx ?_); (case ho => rfl); (case hg => rfl); (case hds => rfl); (case hx => rfl))
      | ((with_reducible refine wpList_build_eq 58 ?parts (Fnd.zero.cells) ?hg ?ho ?hf ?_); (case hg => rfl); (case ho => rfl); (case hf => kernel_rfl))
      | ((with_reducible refine wpList_eq_agg 58 58 (.tmp 80) (.tmp 81) (Fnd.zero.cells).toArray (Fnd.zero.cells).toArray _ (some 82) guardFnd (eqFndY _) ?hgd ?ho ?hd ?hx ?hy ?_); (case hgd => rfl); (case ho => rfl); (case hd => rfl); (case hx => rfl); (case hy => rfl))
      | fail)
    refine (alive32 _).mono ?_
    rintro e wz ⟨rfl, hbz⟩
    go_wp2_with fail
    go_ret
    exact ⟨rfl, HBC.out.trans (hbz.mono HBC.out.size)⟩
  | false =>
    have HOF := Lib.hid hof; clear hof
    have hfs : forgeS l x = true := by unfold forgeS; rw [HOF.out, G2.out]; rfl
    rcases he with ⟨⟨_, hbl⟩, s, rfl, ts⟩ | ⟨hno, rfl⟩
    rotate_left
    · have hbl : below ≤ x.r.epoch := by
        by_cases hh : x.r.epoch < below
        · exact absurd ⟨hfs, hh⟩ hno
        · omega
      clear hno hfs
      by_cases her2 : er2 = 0
      · subst her2
        have HNE := Lib.hid (show own ≠ x from fun h => by have := HOF.out; unfold ofS at this; rw [HM.out, h] at this; simp at this)
        go_wp2_with (first
          | ((with_reducible refine wpList_alloc_new 58 (Fnd.zero.cells) zeroFnd (some 15) ?hgd ?ho ?hd ?_); (case hgd => rfl); (case ho => rfl); (case hd => rfl); (intro b8 w8 l8 B8 e8 z8))
          | ((with_reducible refine wpList_store_new 58 (.tmp 15) (.tmp 58) b8 (Fnd.zero.cells) (Fnd.zero.cells) 58 B8 rfl sizeFnd (Fnd.cells_one _) ?hgd ?ho ?hx ?hy ?_); (case hgd => rfl); (case ho => rfl); (case hx => rfl); (case hy => rfl); (intro w9 B9 o9); have X9 := o9.blk (HX7.out.below e8 (Nat.lt_of_lt_of_le HX7.out.lt l8)) (by have := HX7.out.lt; omega); have Y9 := o9.blk (HY7.out.below e8 (Nat.lt_of_lt_of_le HY7.out.lt l8)) (by have := HY7.out.lt; omega); have x90 := X9.cell (i := 0) rfl)
          | fail)
        have hb9 : Below w7.heap.size w7 w9 := o9.below (e8.mono l8) l8
        have HX9 := Lib.hid X9
        have HY9 := Lib.hid Y9
        have HF9 := Lib.hid B9
        have HB9 := Lib.hid (HB7.out.trans (hb9.mono HB7.out.size))
        clear X9 Y9 B8 B9 o9 e8 l8 z8 hb9 x90
        refine (rmake_walk _ l x.seq _ (HS.out.below HB9.out (Nat.le_refl _)) HL.out HT.out).mono ?_
        rintro e wA ⟨he, hbA⟩
        unfold MakeEnd at he
        rw [HM.out] at he
        subst he
        have HXA := Lib.hid (HX9.out.below hbA HX9.out.lt)
        have HYA := Lib.hid (HY9.out.below hbA HY9.out.lt)
        have HFA := Lib.hid (HF9.out.below hbA HF9.out.lt)
        have HBA := Lib.hid (HB9.out.trans (hbA.mono HB9.out.size))
        clear hbA
        go_upto_region 9 with (first
          | ((with_reducible refine wpList_alloc_new 37 (Rcp.zero.cells) zeroRcp (some 16) ?hgd ?ho ?hd ?_); (case hgd => rfl); (case ho => rfl); (case hd => rfl); (intro bB wB lB BB eB zB))
          | ((with_reducible refine wpList_store_new 37 (.tmp 16) (.tmp 64) bB (Rcp.zero.cells) (own.cells) 37 BB rfl rsizeRcp (Rcp.cells_one _) ?hgd ?ho ?hx ?hy ?_); (case hgd => rfl); (case ho => rfl); (case hx => rfl); (case hy => rfl); (intro wC BC oC))
          | fail)
        have XC := oC.blk (HXA.out.below eB (Nat.lt_of_lt_of_le HXA.out.lt lB)) (by have := HXA.out.lt; omega)
        have YC := oC.blk (HYA.out.below eB (Nat.lt_of_lt_of_le HYA.out.lt lB)) (by have := HYA.out.lt; omega)
        have FC := oC.blk (HFA.out.below eB (Nat.lt_of_lt_of_le HFA.out.lt lB)) (by have := HFA.out.lt; omega)
        have hbC : Below wA.heap.size wA wC := oC.below (eB.mono lB) lB
        have HXC := Lib.hid XC
        have HYC := Lib.hid YC
        have HFC := Lib.hid FC
        have HWC := Lib.hid BC
        have HBC := Lib.hid (HBA.out.trans (hbC.mono HBA.out.size))
        clear XC YC FC BB BC oC eB lB zB hbC
        have x2 := HXC.out.cell (i := 2) rfl
        go_wp2_with (first
          | ((with_reducible refine wpList_load_met 37 (.tmp 16) bB 0 (own.cells) _ (some 69) (HWC.out).range Tryz.underlying37 rfl rsizeRcp ?hg ?ho ?hds ?hx ?_); (case ho => rfl); (case hg => rfl); (case hds => rfl); (case hx => rfl))
          | ((with_reducible refine wpList_load_met 37 (.tmp 8) b0 0 (x.cells) _ (some 70) (HXC.out).range Tryz.underlying37 rfl rsizeRcp ?hg ?ho ?hds ?hx ?_); (case ho => rfl); (case hg => rfl); (case hds => rfl); (case hx => rfl))
          | ((with_reducible refine wpList_eq_agg 37 37 (.tmp 69) (.tmp 70) (own.cells).toArray (x.cells).toArray _ (some 71) guardRcp (eqRcpF HNE.out _) ?hgd ?ho ?hd ?hx ?hy ?_); (case hgd => rfl); (case ho => rfl); (case hd => rfl); (case hx => rfl); (case hy => rfl))
          | ((with_reducible refine wpList_load_met 58 (.tmp 15) b8 0 (Fnd.zero.cells) _ (some 80) (HFC.out).range Tryz.underlying58 rfl sizeFnd ?hg ?ho ?hds ?hx ?_); (case ho => rfl); (case hg => rfl); (case hds => rfl); (case hx => rfl))
          | ((with_reducible refine wpList_build_eq 58 ?parts (Fnd.zero.cells) ?hg ?ho ?hf ?_); (case hg => rfl); (case ho => rfl); (case hf => kernel_rfl))
          | ((with_reducible refine wpList_eq_agg 58 58 (.tmp 80) (.tmp 81) (Fnd.zero.cells).toArray (Fnd.zero.cells).toArray _ (some 82) guardFnd (eqFndY _) ?hgd ?ho ?hd ?hx ?hy ?_); (case hgd => rfl); (case ho => rfl); (case hd => rfl); (case hx => rfl); (case hy => rfl))
          | fail)
        refine (alive32 _).mono ?_
        rintro e wz ⟨rfl, hbz⟩
        go_wp2_with fail
        go_ret
        exact ⟨rfl, HBC.out.trans (hbz.mono HBC.out.size)⟩
      · have her2' : ¬ er2 = 0 := her2
        go_wp2_with (first
          | ((with_reducible refine wpList_alloc_new 58 (Fnd.zero.cells) zeroFnd (some 15) ?hgd ?ho ?hd ?_); (case hgd => rfl); (case ho => rfl); (case hd => rfl); (intro b8 w8 l8 B8 e8 z8))
          | ((with_reducible refine wpList_store_new 58 (.tmp 15) (.tmp 58) b8 (Fnd.zero.cells) (Fnd.zero.cells) 58 B8 rfl sizeFnd (Fnd.cells_one _) ?hgd ?ho ?hx ?hy ?_); (case hgd => rfl); (case ho => rfl); (case hx => rfl); (case hy => rfl); (intro w9 B9 o9); have X9 := o9.blk (HX7.out.below e8 (Nat.lt_of_lt_of_le HX7.out.lt l8)) (by have := HX7.out.lt; omega); have Y9 := o9.blk (HY7.out.below e8 (Nat.lt_of_lt_of_le HY7.out.lt l8)) (by have := HY7.out.lt; omega); have x90 := X9.cell (i := 0) rfl)
          | fail)
        have hb9 : Below w7.heap.size w7 w9 := o9.below (e8.mono l8) l8
        have HX9 := Lib.hid X9
        have HY9 := Lib.hid Y9
        have HF9 := Lib.hid B9
        have HB9 := Lib.hid (HB7.out.trans (hb9.mono HB7.out.size))
        clear X9 Y9 B8 B9 o9 e8 l8 z8 hb9 x90
        refine (rmake_walk _ l x.seq _ (HS.out.below HB9.out (Nat.le_refl _)) HL.out HT.out).mono ?_
        rintro e wA ⟨he, hbA⟩
        unfold MakeEnd at he
        rw [HM.out] at he
        subst he
        have HXA := Lib.hid (HX9.out.below hbA HX9.out.lt)
        have HYA := Lib.hid (HY9.out.below hbA HY9.out.lt)
        have HFA := Lib.hid (HF9.out.below hbA HF9.out.lt)
        have HBA := Lib.hid (HB9.out.trans (hbA.mono HB9.out.size))
        clear hbA
        go_upto_region 9 with (first
          | ((with_reducible refine wpList_alloc_new 37 (Rcp.zero.cells) zeroRcp (some 16) ?hgd ?ho ?hd ?_); (case hgd => rfl); (case ho => rfl); (case hd => rfl); (intro bB wB lB BB eB zB))
          | ((with_reducible refine wpList_store_new 37 (.tmp 16) (.tmp 64) bB (Rcp.zero.cells) (own.cells) 37 BB rfl rsizeRcp (Rcp.cells_one _) ?hgd ?ho ?hx ?hy ?_); (case hgd => rfl); (case ho => rfl); (case hx => rfl); (case hy => rfl); (intro wC BC oC))
          | fail)
        have XC := oC.blk (HXA.out.below eB (Nat.lt_of_lt_of_le HXA.out.lt lB)) (by have := HXA.out.lt; omega)
        have YC := oC.blk (HYA.out.below eB (Nat.lt_of_lt_of_le HYA.out.lt lB)) (by have := HYA.out.lt; omega)
        have FC := oC.blk (HFA.out.below eB (Nat.lt_of_lt_of_le HFA.out.lt lB)) (by have := HFA.out.lt; omega)
        have hbC : Below wA.heap.size wA wC := oC.below (eB.mono lB) lB
        have HXC := Lib.hid XC
        have HYC := Lib.hid YC
        have HFC := Lib.hid FC
        have HWC := Lib.hid BC
        have HBC := Lib.hid (HBA.out.trans (hbC.mono HBA.out.size))
        clear XC YC FC BB BC oC eB lB zB hbC
        have x2 := HXC.out.cell (i := 2) rfl
        go_wp2_with (first
          | ((with_reducible refine wpList_load_met 58 (.tmp 15) b8 0 (Fnd.zero.cells) _ (some 80) (HFC.out).range Tryz.underlying58 rfl sizeFnd ?hg ?ho ?hds ?hx ?_); (case ho => rfl); (case hg => rfl); (case hds => rfl); (case hx => rfl))
          | ((with_reducible refine wpList_build_eq 58 ?parts (Fnd.zero.cells) ?hg ?ho ?hf ?_); (case hg => rfl); (case ho => rfl); (case hf => kernel_rfl))
          | ((with_reducible refine wpList_eq_agg 58 58 (.tmp 80) (.tmp 81) (Fnd.zero.cells).toArray (Fnd.zero.cells).toArray _ (some 82) guardFnd (eqFndY _) ?hgd ?ho ?hd ?hx ?hy ?_); (case hgd => rfl); (case ho => rfl); (case hd => rfl); (case hx => rfl); (case hy => rfl))
          | fail)
        refine (alive32 _).mono ?_
        rintro e wz ⟨rfl, hbz⟩
        go_wp2_with fail
        go_ret
        exact ⟨rfl, HBC.out.trans (hbz.mono HBC.out.size)⟩
    have hsl : s.size ≤ 16777216 := by
      rw [ts.size]
      unfold saidC
      rw [List.length_append, List.length_append, beBytes_length]
      have := recPut_length (rcpOk_rec G2.out).1
      have e1 : x.was.data.toList.length = x.was.size := rfl
      have := HSZ.out.2.2
      omega
    have HSL := Lib.hid hsl
    have TS := Lib.hid ts
    have HBL := Lib.hid hbl
    have HTG := Lib.hid (show taggedS root first ⟨2, ⟨#[]⟩, ⟨#[]⟩, x.r.epoch, s, x.tag⟩ [109, 97, 99] = true by
      unfold taggedS
      rw [if_pos (show tagIn root first ⟨2, ⟨#[]⟩, ⟨#[]⟩, x.r.epoch, s, x.tag⟩ from GE.out), decide_eq_true_eq]
      show mac _ s.data.toList = x.tag.data.toList
      rw [show s.data.toList = _ from TS.out, ← G6.out]; rfl)
    have HNM := Lib.hid (show ¬ ∃ k, MadeAt l s.data.toList k from fun ⟨k, y, hy, _, he⟩ => sound_apart HRR.out HL.out H3.out HOF.out hy (by rw [he, show s.data.toList = _ from TS.out]))
    have hbl' : ¬ below ≤ x.r.epoch := by omega
    clear hsl ts hbl hfs
    by_cases her2 : er2 = 0
    · subst her2
      have HNE := Lib.hid (show own ≠ x from fun h => by have := HOF.out; unfold ofS at this; rw [HM.out, h] at this; simp at this)
      go_wp2_with (first
        | ((with_reducible refine wpList_alloc_new 58 (Fnd.zero.cells) zeroFnd (some 15) ?hgd ?ho ?hd ?_); (case hgd => rfl); (case ho => rfl); (case hd => rfl); (intro b8 w8 l8 B8 e8 z8))
        | ((with_reducible refine wpList_store_new 58 (.tmp 15) (.tmp 58) b8 (Fnd.zero.cells) ((⟨2, ⟨#[]⟩, ⟨#[]⟩, x.r.epoch, s, x.tag⟩ : Fnd).cells) 58 B8 rfl sizeFnd (Fnd.cells_one _) ?hgd ?ho ?hx ?hy ?_); (case hgd => rfl); (case ho => rfl); (case hx => rfl); (case hy => rfl); (intro w9 B9 o9); have X9 := o9.blk (HX7.out.below e8 (Nat.lt_of_lt_of_le HX7.out.lt l8)) (by have := HX7.out.lt; omega); have Y9 := o9.blk (HY7.out.below e8 (Nat.lt_of_lt_of_le HY7.out.lt l8)) (by have := HY7.out.lt; omega); have x90 := X9.cell (i := 0) rfl)
        | fail)
      have hb9 : Below w7.heap.size w7 w9 := o9.below (e8.mono l8) l8
      have HX9 := Lib.hid X9
      have HY9 := Lib.hid Y9
      have HF9 := Lib.hid B9
      have HB9 := Lib.hid (HB7.out.trans (hb9.mono HB7.out.size))
      clear X9 Y9 B8 B9 o9 e8 l8 z8 hb9 x90
      refine (rmake_walk _ l x.seq _ (HS.out.below HB9.out (Nat.le_refl _)) HL.out HT.out).mono ?_
      rintro e wA ⟨he, hbA⟩
      unfold MakeEnd at he
      rw [HM.out] at he
      subst he
      have HXA := Lib.hid (HX9.out.below hbA HX9.out.lt)
      have HYA := Lib.hid (HY9.out.below hbA HY9.out.lt)
      have HFA := Lib.hid (HF9.out.below hbA HF9.out.lt)
      have HBA := Lib.hid (HB9.out.trans (hbA.mono HB9.out.size))
      clear hbA
      go_upto_region 9 with (first
        | ((with_reducible refine wpList_alloc_new 37 (Rcp.zero.cells) zeroRcp (some 16) ?hgd ?ho ?hd ?_); (case hgd => rfl); (case ho => rfl); (case hd => rfl); (intro bB wB lB BB eB zB))
        | ((with_reducible refine wpList_store_new 37 (.tmp 16) (.tmp 64) bB (Rcp.zero.cells) (own.cells) 37 BB rfl rsizeRcp (Rcp.cells_one _) ?hgd ?ho ?hx ?hy ?_); (case hgd => rfl); (case ho => rfl); (case hx => rfl); (case hy => rfl); (intro wC BC oC))
        | fail)
      have XC := oC.blk (HXA.out.below eB (Nat.lt_of_lt_of_le HXA.out.lt lB)) (by have := HXA.out.lt; omega)
      have YC := oC.blk (HYA.out.below eB (Nat.lt_of_lt_of_le HYA.out.lt lB)) (by have := HYA.out.lt; omega)
      have FC := oC.blk (HFA.out.below eB (Nat.lt_of_lt_of_le HFA.out.lt lB)) (by have := HFA.out.lt; omega)
      have hbC : Below wA.heap.size wA wC := oC.below (eB.mono lB) lB
      have HXC := Lib.hid XC
      have HYC := Lib.hid YC
      have HFC := Lib.hid FC
      have HWC := Lib.hid BC
      have HBC := Lib.hid (HBA.out.trans (hbC.mono HBA.out.size))
      clear XC YC FC BB BC oC eB lB zB hbC
      have x2 := HXC.out.cell (i := 2) rfl
      go_wp2_with (first
        | ((with_reducible refine wpList_load_met 37 (.tmp 16) bB 0 (own.cells) _ (some 69) (HWC.out).range Tryz.underlying37 rfl rsizeRcp ?hg ?ho ?hds ?hx ?_); (case ho => rfl); (case hg => rfl); (case hds => rfl); (case hx => rfl))
        | ((with_reducible refine wpList_load_met 37 (.tmp 8) b0 0 (x.cells) _ (some 70) (HXC.out).range Tryz.underlying37 rfl rsizeRcp ?hg ?ho ?hds ?hx ?_); (case ho => rfl); (case hg => rfl); (case hds => rfl); (case hx => rfl))
        | ((with_reducible refine wpList_eq_agg 37 37 (.tmp 69) (.tmp 70) (own.cells).toArray (x.cells).toArray _ (some 71) guardRcp (eqRcpF HNE.out _) ?hgd ?ho ?hd ?hx ?hy ?_); (case hgd => rfl); (case ho => rfl); (case hd => rfl); (case hx => rfl); (case hy => rfl))
        | ((with_reducible refine wpList_load_met 56 (.tmp 14) b5 0 ([.slice p n c, .slice none 0 0, .slice none 0 0]) _ (some 88) (HYC.out).range Tryz.underlying56 rfl sizeHon32 ?hg ?ho ?hds ?hx ?_); (case ho => rfl); (case hg => rfl); (case hds => rfl); (case hx => rfl))
        | ((with_reducible refine wpList_load_met 58 (.tmp 15) b8 0 ((⟨2, ⟨#[]⟩, ⟨#[]⟩, x.r.epoch, s, x.tag⟩ : Fnd).cells) _ (some 90) (HFC.out).range Tryz.underlying58 rfl sizeFnd ?hg ?ho ?hds ?hx ?_); (case ho => rfl); (case hg => rfl); (case hds => rfl); (case hx => rfl))
        | fail)
      refine (right32_two root first _ (.slice none 0 0) (.slice none 0 0) l below x.r.epoch ⟨#[]⟩ ⟨#[]⟩ s x.tag _ (HS.out.below HBC.out (Nat.le_refl _)) rfl rfl HL.out HT.out HSL.out).mono ?_
      rintro e wD ⟨⟨q, rfl, hq⟩, hbD⟩
      have hqt : q = true := hq.2 ⟨HBL.out, HTG.out, HNM.out⟩
      subst hqt
      have HBD := Lib.hid (HBC.out.trans (hbD.mono HBC.out.size))
      clear hq hbD x2
      go_wp2_with fail
      refine (alive32 _).mono ?_
      rintro e wz ⟨rfl, hbz⟩
      go_wp2_with fail
      go_ret
      exact ⟨rfl, HBD.out.trans (hbz.mono HBD.out.size)⟩
    · have her2' : ¬ er2 = 0 := her2
      go_wp2_with (first
        | ((with_reducible refine wpList_alloc_new 58 (Fnd.zero.cells) zeroFnd (some 15) ?hgd ?ho ?hd ?_); (case hgd => rfl); (case ho => rfl); (case hd => rfl); (intro b8 w8 l8 B8 e8 z8))
        | ((with_reducible refine wpList_store_new 58 (.tmp 15) (.tmp 58) b8 (Fnd.zero.cells) ((⟨2, ⟨#[]⟩, ⟨#[]⟩, x.r.epoch, s, x.tag⟩ : Fnd).cells) 58 B8 rfl sizeFnd (Fnd.cells_one _) ?hgd ?ho ?hx ?hy ?_); (case hgd => rfl); (case ho => rfl); (case hx => rfl); (case hy => rfl); (intro w9 B9 o9); have X9 := o9.blk (HX7.out.below e8 (Nat.lt_of_lt_of_le HX7.out.lt l8)) (by have := HX7.out.lt; omega); have Y9 := o9.blk (HY7.out.below e8 (Nat.lt_of_lt_of_le HY7.out.lt l8)) (by have := HY7.out.lt; omega); have x90 := X9.cell (i := 0) rfl)
        | fail)
      have hb9 : Below w7.heap.size w7 w9 := o9.below (e8.mono l8) l8
      have HX9 := Lib.hid X9
      have HY9 := Lib.hid Y9
      have HF9 := Lib.hid B9
      have HB9 := Lib.hid (HB7.out.trans (hb9.mono HB7.out.size))
      clear X9 Y9 B8 B9 o9 e8 l8 z8 hb9 x90
      refine (rmake_walk _ l x.seq _ (HS.out.below HB9.out (Nat.le_refl _)) HL.out HT.out).mono ?_
      rintro e wA ⟨he, hbA⟩
      unfold MakeEnd at he
      rw [HM.out] at he
      subst he
      have HXA := Lib.hid (HX9.out.below hbA HX9.out.lt)
      have HYA := Lib.hid (HY9.out.below hbA HY9.out.lt)
      have HFA := Lib.hid (HF9.out.below hbA HF9.out.lt)
      have HBA := Lib.hid (HB9.out.trans (hbA.mono HB9.out.size))
      clear hbA
      go_upto_region 9 with (first
        | ((with_reducible refine wpList_alloc_new 37 (Rcp.zero.cells) zeroRcp (some 16) ?hgd ?ho ?hd ?_); (case hgd => rfl); (case ho => rfl); (case hd => rfl); (intro bB wB lB BB eB zB))
        | ((with_reducible refine wpList_store_new 37 (.tmp 16) (.tmp 64) bB (Rcp.zero.cells) (own.cells) 37 BB rfl rsizeRcp (Rcp.cells_one _) ?hgd ?ho ?hx ?hy ?_); (case hgd => rfl); (case ho => rfl); (case hx => rfl); (case hy => rfl); (intro wC BC oC))
        | fail)
      have XC := oC.blk (HXA.out.below eB (Nat.lt_of_lt_of_le HXA.out.lt lB)) (by have := HXA.out.lt; omega)
      have YC := oC.blk (HYA.out.below eB (Nat.lt_of_lt_of_le HYA.out.lt lB)) (by have := HYA.out.lt; omega)
      have FC := oC.blk (HFA.out.below eB (Nat.lt_of_lt_of_le HFA.out.lt lB)) (by have := HFA.out.lt; omega)
      have hbC : Below wA.heap.size wA wC := oC.below (eB.mono lB) lB
      have HXC := Lib.hid XC
      have HYC := Lib.hid YC
      have HFC := Lib.hid FC
      have HWC := Lib.hid BC
      have HBC := Lib.hid (HBA.out.trans (hbC.mono HBA.out.size))
      clear XC YC FC BB BC oC eB lB zB hbC
      have x2 := HXC.out.cell (i := 2) rfl
      go_wp2_with (first
        | ((with_reducible refine wpList_load_met 56 (.tmp 14) b5 0 ([.slice p n c, .slice none 0 0, .slice none 0 0]) _ (some 88) (HYC.out).range Tryz.underlying56 rfl sizeHon32 ?hg ?ho ?hds ?hx ?_); (case ho => rfl); (case hg => rfl); (case hds => rfl); (case hx => rfl))
        | ((with_reducible refine wpList_load_met 58 (.tmp 15) b8 0 ((⟨2, ⟨#[]⟩, ⟨#[]⟩, x.r.epoch, s, x.tag⟩ : Fnd).cells) _ (some 90) (HFC.out).range Tryz.underlying58 rfl sizeFnd ?hg ?ho ?hds ?hx ?_); (case ho => rfl); (case hg => rfl); (case hds => rfl); (case hx => rfl))
        | fail)
      refine (right32_two root first _ (.slice none 0 0) (.slice none 0 0) l below x.r.epoch ⟨#[]⟩ ⟨#[]⟩ s x.tag _ (HS.out.below HBC.out (Nat.le_refl _)) rfl rfl HL.out HT.out HSL.out).mono ?_
      rintro e wD ⟨⟨q, rfl, hq⟩, hbD⟩
      have hqt : q = true := hq.2 ⟨HBL.out, HTG.out, HNM.out⟩
      subst hqt
      have HBD := Lib.hid (HBC.out.trans (hbD.mono HBC.out.size))
      clear hq hbD x2
      go_wp2_with fail
      refine (alive32 _).mono ?_
      rintro e wz ⟨rfl, hbz⟩
      go_wp2_with fail
      go_ret
      exact ⟨rfl, HBD.out.trans (hbz.mono HBD.out.size)⟩
theorem extractReceipt_law (root : ByteArray) (first : Int) (v : Value) (l : List Sld) (x : Rcp) (below : Int) (w : World) (h : SldsIn w v l) (hx : RcpFits x) :
    Calls Tryz.prog 5 #[.string root, .int .i64 first, v, x.v, .int .i64 below] w fun e w' => e = .returned (.bool true) ∧ Below w.heap.size w w' := by
  by_cases hf : fewS l = true ∧ fewRcp x = true ∧ rchkS root first x = 0 ∧ x.r.epoch - first ≤ 40
  · refine extractReceipt_walk root first v l x below w h.row hx (by have := fewS_len hf.1; omega) ?_ hf.1 hf.2.1 hf.2.2.1 hf.2.2.2
    intro j y hy
    have := fewS_each hf.1 j y hy
    exact ⟨by omega, by omega, by omega, (h.fits j y hy).epoch⟩
  · exact extractReceipt_few root first v l x below w h.row hx hf
end Go.Proofs.YtidekfbgjghcjaaGreat
