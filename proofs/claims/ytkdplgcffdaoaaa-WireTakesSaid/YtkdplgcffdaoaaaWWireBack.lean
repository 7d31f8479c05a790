/- Walk of WireBack: for every message and every text the law returns true. No condition. -/
import Derived.Test.YtkdplgcffdaoaaaWWireApart
import Derived.Test.YtkdplgcffdaoaaaWireTk
import Derived.Test.YtkdplgcffdaoaaaWireD6
namespace Go.Proofs.Ytkdplgcffdaoaaa
set_option linter.unusedSimpArgs false
set_option linter.unusedVariables false
open Go Go.RowKit
set_option linter.unusedVariables false

theorem TakenAs.one {s : List UInt8} {m n : MsgD} (h : TakenAs s m) (k : TakenAs s n) : m = n := by
  have h1 := h.1
  rw [k.1] at h1
  injection h1 with h1
  injection h1 with h1 _
  exact h1.symm
theorem TakenAs.of {m : MsgD} (h : msgOk m = true) : TakenAs (msgPut m) m := ⟨readF_put h, h, rfl⟩
set_option maxRecDepth 100000 in
set_option maxHeartbeats 16000000 in
theorem wireBack_walk (m : MsgD) (u l : Value) (s : ByteArray) (w : World) (fm : MsgFits w m u l) :
    Calls Try.prog 4 #[m.v u l, .string s] w fun e w' => e = .returned (.bool true) ∧ Below w.heap.size w w' := by
  have HF := Lib.hid fm; clear fm
  go_enter Try.func4, Try.ntmps4
  go_wp2_with (first
    | ((with_reducible refine wpList_box_new 39 (.tmp 0) (m.cells u l) (some 2) ?hgd ?ho ?hd ?hx ?_); (case hgd => rfl); (case ho => rfl); (case hd => rfl); (case hx => rfl); (intro b0 w0 l0 B0 e0 z0))
    | ((with_reducible refine wpList_load_met 39 (.tmp 2) b0 0 (m.cells u l) _ (some 13) (B0).range Try.underlying39 rfl sizeMsg ?hg ?ho ?hds ?hx ?_); (case ho => rfl); (case hg => rfl); (case hds => rfl); (case hx => rfl))
    | fail)
  have f0 : w.heap.size ≤ b0 := l0
  have HB0 := Lib.hid (show Below w.heap.size w w0 from e0.mono l0)
  clear e0 l0 z0
  refine (few27_walk m u l _ (HF.out.below HB0.out)).mono ?_
  rintro e w1 ⟨hq, hb1⟩
  obtain ⟨q, rfl, hq⟩ := hq
  have B1 := B0.below hb1 B0.lt
  have HB1 := Lib.hid (HB0.out.trans (hb1.mono HB0.out.size))
  clear B0 HB0 hb1
  cases q with
  | false =>
    go_wp2_with fail
    refine (alive27 _).mono ?_
    rintro e wz ⟨rfl, hbz⟩
    go_wp2_with fail
    go_ret
    exact ⟨rfl, HB1.out.trans (hbz.mono HB1.out.size)⟩
  | true =>
    have FM := Lib.hid (hq rfl); clear hq
    by_cases hs : s.size ≤ 10000
    rotate_left
    · have hs' : (10000 : Int) < s.size := by omega
      go_wp2_with fail
      refine (alive27 _).mono ?_
      rintro e wz ⟨rfl, hbz⟩
      go_wp2_with fail
      go_ret
      exact ⟨rfl, HB1.out.trans (hbz.mono HB1.out.size)⟩
    have hs' : (s.size : Int) ≤ 10000 := by omega
    go_wp2_with (first
      | ((with_reducible refine wpList_load_met 39 (.tmp 2) b0 0 (m.cells u l) _ (some 23) (B1).range Try.underlying39 rfl sizeMsg ?hg ?ho ?hds ?hx ?_); (case ho => rfl); (case hg => rfl); (case hds => rfl); (case hx => rfl))
      | fail)
    refine (put27_walk m u l _ (HF.out.below HB1.out).up (HF.out.below HB1.out).left (FM.out.tame HF.out)).mono ?_
    rintro e w2 ⟨he, hb2⟩
    have B2 := B1.below hb2 B1.lt
    have HB2 := Lib.hid (HB1.out.trans (hb2.mono HB1.out.size))
    clear B1 HB1 hb2
    cases hok : msgOk m with
    | false =>
      have h0 := he.no (by rw [hok]; decide)
      subst h0
      clear he hok
      have HB := HB2
      go_upto_region 8 with fail
      go_wp2_with fail
      refine (take27_walk s _ (by omega)).mono ?_
      rintro e v1 ⟨ht, hb1⟩
      have HC := Lib.hid (HB.out.trans (hb1.mono HB.out.size))
      clear hb1
      rcases ht with ⟨x, ux, lx, htk, rfl, hux, hlx⟩ | ⟨hno, rfl⟩
      · have HTK := Lib.hid htk
        have onex : ∀ v ∈ x.cells ux lx, v.oneCell' = true := mcells_one hux.shape hlx.shape
        have HX := Lib.hid (And.intro hux hlx)
        clear htk hux hlx
        go_upto_region 11 with (first
          | ((with_reducible refine wpList_alloc_new 39 mzero zeroMsgB (some 9) ?hgd ?ho ?hd ?_); (case hgd => rfl); (case ho => rfl); (case hd => rfl); (intro b7 w7 l7 B7 e7 z7); have f7 : w.heap.size ≤ b7 := Nat.le_trans HC.out.size l7)
          | ((with_reducible refine wpList_store_new 39 (.tmp 9) (.tmp 45) b7 mzero (x.cells ux lx) 39 B7 rfl sizeMsg onex ?hgd ?ho ?hx ?hy ?_); (case hgd => rfl); (case ho => rfl); (case hx => rfl); (case hy => rfl); (intro w8 B8 o8))
          | fail)
        have hb18 : Below v1.heap.size v1 w8 := o8.below (e7.mono l7) l7
        have HD := Lib.hid (HC.out.trans (hb18.mono HC.out.size))
        have HX8 := Lib.hid (show PRow w8 ux x.told.up ∧ PRow w8 lx x.told.left from ⟨HX.out.1.below hb18 (Nat.le_refl _), HX.out.2.below hb18 (Nat.le_refl _)⟩)
        have HTM := Lib.hid (readF_tame HTK.out.1)
        clear hb18 o8 e7 l7 z7 B7 HX HC
        go_wp2_with (first
          | ((with_reducible refine wpList_load_met 39 (.tmp 9) b7 0 (x.cells ux lx) _ (some 60) (B8).range Try.underlying39 rfl sizeMsg ?hg ?ho ?hds ?hx ?_); (case ho => rfl); (case hg => rfl); (case hds => rfl); (case hx => rfl))
          | fail)
        refine (put27_walk x ux lx _ HX8.out.1 HX8.out.2 HTM.out).mono ?_
        rintro e v2 ⟨hp, hb2⟩
        obtain ⟨r, rfl, tr⟩ := hp.yes HTK.out.2.1
        have hrs : r = s := tr.eq (HTK.out.2.2 ▸ Txt.self s)
        subst hrs
        have B9 := B8.below hb2 B8.lt
        have HE := Lib.hid (HD.out.trans (hb2.mono HD.out.size))
        have HX9 := Lib.hid (show PRow v2 ux x.told.up ∧ PRow v2 lx x.told.left from ⟨HX8.out.1.below hb2 (Nat.le_refl _), HX8.out.2.below hb2 (Nat.le_refl _)⟩)
        clear hp tr hb2 B8 HD HX8
        have HRX := Lib.hid (show rightM x = true by rw [rightM_eq]; exact HTK.out.2.1)
        have HLX := Lib.hid (show Long x.told.up.length ∧ Long x.told.left.length from ⟨.of HTM.out.up (by omega), .of HTM.out.left (by omega)⟩)
        have eqs : (r.toList == r.toList) = true := by simp
        go_wp2_with (first
          | ((with_reducible refine wpList_load_met 39 (.tmp 9) b7 0 (x.cells ux lx) _ (some 72) (B9).range Try.underlying39 rfl sizeMsg ?hg ?ho ?hds ?hx ?_); (case ho => rfl); (case hg => rfl); (case hds => rfl); (case hx => rfl))
          | (go_at_call 13; refine (right27_walk x ux lx _ HX9.out.1 HX9.out.2 HLX.out.1 HLX.out.2).mono ?_; rintro e v3 ⟨he, hb3⟩; rw [HRX.out] at he; subst he; have HG := Lib.hid (HE.out.trans (hb3.mono HE.out.size)))
          | fail)
        refine (alive27 _).mono ?_
        rintro e wz ⟨rfl, hbz⟩
        go_wp2_with fail
        go_ret
        exact ⟨rfl, HG.out.trans (hbz.mono HG.out.size)⟩
      · clear hno
        go_upto_region 10 with (first
          | ((with_reducible refine wpList_alloc_new 39 mzero zeroMsgB (some 9) ?hgd ?ho ?hd ?_); (case hgd => rfl); (case ho => rfl); (case hd => rfl); (intro b7 w7 l7 B7 e7 z7); have f7 : w.heap.size ≤ b7 := Nat.le_trans HC.out.size l7)
          | ((with_reducible refine wpList_store_new 39 (.tmp 9) (.tmp 45) b7 mzero (MsgD.zero.cells (.slice none 0 0) (.slice none 0 0)) 39 B7 rfl sizeMsg (mcells_one nil_shape nil_shape) ?hgd ?ho ?hx ?hy ?_); (case hgd => rfl); (case ho => rfl); (case hx => rfl); (case hy => rfl); (intro w8 B8 o8))
          | fail)
        have HD := Lib.hid (o8.below (HC.out.trans (e7.mono f7)) f7)
        clear o8 e7 l7 z7 B7 HC
        have HZZ := Lib.hid (show decide (MsgD.zero = MsgD.zero) = true by simp)
        go_wp2_with (first
          | ((with_reducible refine wpList_load_met 39 (.tmp 9) b7 0 (MsgD.zero.cells (.slice none 0 0) (.slice none 0 0)) _ (some 49) (B8).range Try.underlying39 rfl sizeMsg ?hg ?ho ?hds ?hx ?_); (case ho => rfl); (case hg => rfl); (case hds => rfl); (case hx => rfl))
          | ((with_reducible refine wpList_build_eq 39 ?parts mzero ?hg ?ho ?hf ?_); (case hg => rfl); (case ho => rfl); (case hf => kernel_rfl))
          | (go_at_call 10; refine (same27_walk MsgD.zero MsgD.zero (.slice none 0 0) (.slice none 0 0) (.slice none 0 0) (.slice none 0 0) _ (PathIn.nil _ _) (PathIn.nil _ _) (PathIn.nil _ _) (PathIn.nil _ _) ⟨by decide⟩ ⟨by decide⟩ ⟨by decide⟩ ⟨by decide⟩).mono ?_; rintro e v3 ⟨he, hb3⟩; rw [HZZ.out] at he; subst he; have HG := Lib.hid (HD.out.trans (hb3.mono HD.out.size)))
          | fail)
        refine (alive27 _).mono ?_
        rintro e wz ⟨rfl, hbz⟩
        go_wp2_with fail
        go_ret
        exact ⟨rfl, HG.out.trans (hbz.mono HG.out.size)⟩
    | true =>
      obtain ⟨t, rfl, tt⟩ := he.yes hok
      have HOK := Lib.hid hok
      have TT := Lib.hid tt
      have hts : t.size ≤ 30000 := by
        rw [tt.size]
        have h1 := msgSaid_len hok
        have h2 : m.tag.data.toList.length ≤ 32 := (msgOk_facts hok).tag
        unfold msgPut
        rw [List.length_append]; omega
      clear he hok tt
      go_wp2_with fail
      refine (take27_walk t _ (by omega)).mono ?_
      rintro e w3 ⟨ht, hb3⟩
      have B3 := B2.below hb3 B2.lt
      have HB3 := Lib.hid (HB2.out.trans (hb3.mono HB2.out.size))
      clear B2 HB2 hb3
      have HTK := Lib.hid (show TakenAs t.data.toList m by rw [show t.data.toList = msgPut m from TT.out]; exact .of HOK.out)
      rcases ht with ⟨y, uy, ly, hty, rfl, huy, hly⟩ | ⟨hno, _⟩
      rotate_left
      · exact absurd HTK.out (hno m)
      obtain rfl : m = y := HTK.out.one hty
      have oney : ∀ v ∈ m.cells uy ly, v.oneCell' = true := mcells_one huy.shape hly.shape
      have HY := Lib.hid (And.intro huy hly)
      clear hty huy hly
      go_upto_region 6 with (first
        | ((with_reducible refine wpList_alloc_new 39 mzero zeroMsgB (some 7) ?hgd ?ho ?hd ?_); (case hgd => rfl); (case ho => rfl); (case hd => rfl); (intro b4 w4 l4 B4 e4 z4); have B4m := B3.below e4 (Nat.lt_of_lt_of_le B3.lt l4); have f4 : w.heap.size ≤ b4 := Nat.le_trans HB3.out.size l4; have h04 : b0 ≠ b4 := (by have := B3.lt; omega))
        | ((with_reducible refine wpList_store_new 39 (.tmp 7) (.tmp 32) b4 mzero (m.cells uy ly) 39 B4 rfl sizeMsg oney ?hgd ?ho ?hx ?hy ?_); (case hgd => rfl); (case ho => rfl); (case hx => rfl); (case hy => rfl); (intro w5 B5 o5))
        | fail)
      have B5m := o5.blk B4m h04
      have hb35 : Below w3.heap.size w3 w5 := o5.below (e4.mono l4) l4
      have HB5 := Lib.hid (HB3.out.trans (hb35.mono HB3.out.size))
      have HY5 := Lib.hid (show PRow w5 uy m.told.up ∧ PRow w5 ly m.told.left from ⟨HY.out.1.below hb35 (Nat.le_refl _), HY.out.2.below hb35 (Nat.le_refl _)⟩)
      clear B4 B4m o5 e4 l4 z4 B3 HB3 HY hb35
      have HZZ := Lib.hid (show decide (m = m) = true by simp)
      go_upto_region 8 with (first
        | ((with_reducible refine wpList_load_met 39 (.tmp 7) b4 0 (m.cells uy ly) _ (some 34) (B5).range Try.underlying39 rfl sizeMsg ?hg ?ho ?hds ?hx ?_); (case ho => rfl); (case hg => rfl); (case hds => rfl); (case hx => rfl))
        | ((with_reducible refine wpList_load_met 39 (.tmp 2) b0 0 (m.cells u l) _ (some 35) (B5m).range Try.underlying39 rfl sizeMsg ?hg ?ho ?hds ?hx ?_); (case ho => rfl); (case hg => rfl); (case hds => rfl); (case hx => rfl))
        | (go_at_call 10; refine (same27_walk m m uy ly u l _ HY5.out.1 HY5.out.2 (HF.out.below HB5.out).up (HF.out.below HB5.out).left HF.out.upl HF.out.leftl HF.out.upl HF.out.leftl).mono ?_; rintro e w6 ⟨he, hb6⟩; rw [HZZ.out] at he; subst he; have HB := Lib.hid (HB5.out.trans (hb6.mono HB5.out.size)))
        | fail)
      go_wp2_with fail
      refine (take27_walk s _ (by omega)).mono ?_
      rintro e v1 ⟨ht, hb1⟩
      have HC := Lib.hid (HB.out.trans (hb1.mono HB.out.size))
      clear hb1
      rcases ht with ⟨x, ux, lx, htk, rfl, hux, hlx⟩ | ⟨hno, rfl⟩
      · have HTK := Lib.hid htk
        have onex : ∀ v ∈ x.cells ux lx, v.oneCell' = true := mcells_one hux.shape hlx.shape
        have HX := Lib.hid (And.intro hux hlx)
        clear htk hux hlx
        go_upto_region 11 with (first
          | ((with_reducible refine wpList_alloc_new 39 mzero zeroMsgB (some 9) ?hgd ?ho ?hd ?_); (case hgd => rfl); (case ho => rfl); (case hd => rfl); (intro b7 w7 l7 B7 e7 z7); have f7 : w.heap.size ≤ b7 := Nat.le_trans HC.out.size l7)
          | ((with_reducible refine wpList_store_new 39 (.tmp 9) (.tmp 45) b7 mzero (x.cells ux lx) 39 B7 rfl sizeMsg onex ?hgd ?ho ?hx ?hy ?_); (case hgd => rfl); (case ho => rfl); (case hx => rfl); (case hy => rfl); (intro w8 B8 o8))
          | fail)
        have hb18 : Below v1.heap.size v1 w8 := o8.below (e7.mono l7) l7
        have HD := Lib.hid (HC.out.trans (hb18.mono HC.out.size))
        have HX8 := Lib.hid (show PRow w8 ux x.told.up ∧ PRow w8 lx x.told.left from ⟨HX.out.1.below hb18 (Nat.le_refl _), HX.out.2.below hb18 (Nat.le_refl _)⟩)
        have HTM := Lib.hid (readF_tame HTK.out.1)
        clear hb18 o8 e7 l7 z7 B7 HX HC
        go_wp2_with (first
          | ((with_reducible refine wpList_load_met 39 (.tmp 9) b7 0 (x.cells ux lx) _ (some 60) (B8).range Try.underlying39 rfl sizeMsg ?hg ?ho ?hds ?hx ?_); (case ho => rfl); (case hg => rfl); (case hds => rfl); (case hx => rfl))
          | fail)
        refine (put27_walk x ux lx _ HX8.out.1 HX8.out.2 HTM.out).mono ?_
        rintro e v2 ⟨hp, hb2⟩
        obtain ⟨r, rfl, tr⟩ := hp.yes HTK.out.2.1
        have hrs : r = s := tr.eq (HTK.out.2.2 ▸ Txt.self s)
        subst hrs
        have B9 := B8.below hb2 B8.lt
        have HE := Lib.hid (HD.out.trans (hb2.mono HD.out.size))
        have HX9 := Lib.hid (show PRow v2 ux x.told.up ∧ PRow v2 lx x.told.left from ⟨HX8.out.1.below hb2 (Nat.le_refl _), HX8.out.2.below hb2 (Nat.le_refl _)⟩)
        clear hp tr hb2 B8 HD HX8
        have HRX := Lib.hid (show rightM x = true by rw [rightM_eq]; exact HTK.out.2.1)
        have HLX := Lib.hid (show Long x.told.up.length ∧ Long x.told.left.length from ⟨.of HTM.out.up (by omega), .of HTM.out.left (by omega)⟩)
        have eqs : (r.toList == r.toList) = true := by simp
        go_wp2_with (first
          | ((with_reducible refine wpList_load_met 39 (.tmp 9) b7 0 (x.cells ux lx) _ (some 72) (B9).range Try.underlying39 rfl sizeMsg ?hg ?ho ?hds ?hx ?_); (case ho => rfl); (case hg => rfl); (case hds => rfl); (case hx => rfl))
          | (go_at_call 13; refine (right27_walk x ux lx _ HX9.out.1 HX9.out.2 HLX.out.1 HLX.out.2).mono ?_; rintro e v3 ⟨he, hb3⟩; rw [HRX.out] at he; subst he; have HG := Lib.hid (HE.out.trans (hb3.mono HE.out.size)))
          | fail)
        refine (alive27 _).mono ?_
        rintro e wz ⟨rfl, hbz⟩
        go_wp2_with fail
        go_ret
        exact ⟨rfl, HG.out.trans (hbz.mono HG.out.size)⟩
      · clear hno
        go_upto_region 10 with (first
          | ((with_reducible refine wpList_alloc_new 39 mzero zeroMsgB (some 9) ?hgd ?ho ?hd ?_); (case hgd => rfl); (case ho => rfl); (case hd => rfl); (intro b7 w7 l7 B7 e7 z7); have f7 : w.heap.size ≤ b7 := Nat.le_trans HC.out.size l7)
          | ((with_reducible refine wpList_store_new 39 (.tmp 9) (.tmp 45) b7 mzero (MsgD.zero.cells (.slice none 0 0) (.slice none 0 0)) 39 B7 rfl sizeMsg (mcells_one nil_shape nil_shape) ?hgd ?ho ?hx ?hy ?_); (case hgd => rfl); (case ho => rfl); (case hx => rfl); (case hy => rfl); (intro w8 B8 o8))
          | fail)
        have HD := Lib.hid (o8.below (HC.out.trans (e7.mono f7)) f7)
        clear o8 e7 l7 z7 B7 HC
        have HZZ := Lib.hid (show decide (MsgD.zero = MsgD.zero) = true by simp)
        go_wp2_with (first
          | ((with_reducible refine wpList_load_met 39 (.tmp 9) b7 0 (MsgD.zero.cells (.slice none 0 0) (.slice none 0 0)) _ (some 49) (B8).range Try.underlying39 rfl sizeMsg ?hg ?ho ?hds ?hx ?_); (case ho => rfl); (case hg => rfl); (case hds => rfl); (case hx => rfl))
          | ((with_reducible refine wpList_build_eq 39 ?parts mzero ?hg ?ho ?hf ?_); (case hg => rfl); (case ho => rfl); (case hf => kernel_rfl))
          | (go_at_call 10; refine (same27_walk MsgD.zero MsgD.zero (.slice none 0 0) (.slice none 0 0) (.slice none 0 0) (.slice none 0 0) _ (PathIn.nil _ _) (PathIn.nil _ _) (PathIn.nil _ _) (PathIn.nil _ _) ⟨by decide⟩ ⟨by decide⟩ ⟨by decide⟩ ⟨by decide⟩).mono ?_; rintro e v3 ⟨he, hb3⟩; rw [HZZ.out] at he; subst he; have HG := Lib.hid (HD.out.trans (hb3.mono HD.out.size)))
          | fail)
        refine (alive27 _).mono ?_
        rintro e wz ⟨rfl, hbz⟩
        go_wp2_with fail
        go_ret
        exact ⟨rfl, HG.out.trans (hbz.mono HG.out.size)⟩
end Go.Proofs.Ytkdplgcffdaoaaa
