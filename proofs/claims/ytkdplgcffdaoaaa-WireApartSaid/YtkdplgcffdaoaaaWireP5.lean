/- Walks of wire's part: record, receipt, both ways, with their closures (chapter 27). -/
import Derived.Test.YtkdplgcffdaoaaaWireP4
namespace Go.Proofs.Ytkdplgcffdaoaaa
set_option linter.unusedSimpArgs false
set_option linter.unusedVariables false
open Go Go.RowKit
set_option linter.unusedVariables false

theorem Blk.part {w : World} {b : Nat} {x y z : List Value} {t : TypeId} (h : Blk w b (x ++ y ++ z) t) {off : Nat} (ho : off = x.length) : w.rangeAt b off y := h.rangeMid ho
theorem MsgD.recAt (m : MsgD) (u l : Value) : m.cells u l = (m.cells u l).take 8 ++ m.sld.r.cells ++ (m.cells u l).drop 16 := rfl
theorem MsgD.rcpAt (m : MsgD) (u l : Value) : m.cells u l = (m.cells u l).take 30 ++ m.rcp.cells ++ (m.cells u l).drop 41 := rfl
set_option maxHeartbeats 2000000 in
/-- The closure that reads a record. -/
theorem recordc_walk (s : ByteArray) (vb b : Nat) (m : MsgD) (u l : Value) (w : World) (hv : Blk w vb [.pointer (some ⟨b, 8, none⟩)] 100) (hb : Blk w b (m.cells u l) 39) (hne : b ≠ vb) (hs : s.size ≤ 1048576) :
    Calls Try.prog 71 #[.string s, .pointer (some ⟨vb, 0, none⟩)] w fun e w' =>
      ∃ x left f, e = .returned (.tuple #[.string left, .int .i64 f]) ∧ Blk w' b (({ m with sld := ⟨x, m.sld.tag⟩ }).cells u l) 39 ∧ Turned [b] w w' ∧ ((f = 0 ∧ recTake s.data.toList = some (x, left.data.toList)) ∨ (f = 3 ∧ recTake s.data.toList = none)) := by
  have HV := Lib.hid hv; have HBL := Lib.hid hb
  clear hv hb
  go_enter Try.func71, Try.ntmps71
  go_wp2_with fail
  refine (rectake_walk s _ (by omega)).mono ?_
  rintro e w1 ⟨he, hb1⟩
  obtain ⟨x, y, f, rfl, hx⟩ : ∃ x y f, e = .returned (.tuple #[x.v, .string y, .int .i64 f]) ∧ ((f = 0 ∧ recTake s.data.toList = some (x, y.data.toList)) ∨ (f = 3 ∧ recTake s.data.toList = none)) := by
    rcases he with ⟨x, left, y, h1, h2, h3⟩ | ⟨h1, h2⟩
    · exact ⟨x, y, 0, h2, .inl ⟨rfl, by rw [h1, show y.data.toList = _ from h3]⟩⟩
    · exact ⟨_, _, 3, h2, .inr ⟨rfl, h1⟩⟩
  have HX := Lib.hid hx
  have V1 := Lib.hid (HV.out.below hb1 HV.out.lt)
  have B1 := Lib.hid (HBL.out.below hb1 HBL.out.lt)
  have T1 : Hid (Turned [b] w w1) := Lib.hid (Turned.of_below hb1 (Nat.le_refl _))
  clear he hx hb1 HV HBL
  go_wp2_with (first
    | ((with_reducible refine wpList_alloc_new 25 Rec.zero.cells zeroRec2 (some 5) ?hgd ?ho ?hd ?_); (case hgd => rfl); (case ho => rfl); (case hd => rfl); (intro b2 w2 l2 B2 e2 z2); have BB2 := B1.out.below e2 (Nat.lt_of_lt_of_le B1.out.lt l2); have VV2 := V1.out.below e2 (Nat.lt_of_lt_of_le V1.out.lt l2))
    | ((with_reducible refine wpList_store_new 25 (.tmp 5) (.tmp 11) b2 Rec.zero.cells x.cells 25 B2 rfl rsizeRec (Rec.cells_one1 _) ?hgd ?ho ?hx ?hy ?_); (case hgd => rfl); (case ho => rfl); (case hx => rfl); (case hy => rfl); (intro w3 B3 o3); have BB3 := o3.blk BB2 (by have := B1.out.lt; omega); have VV3 := o3.blk VV2 (by have := V1.out.lt; omega); have v3 := VV3.cell (i := 0) rfl; have T3 : Turned [b] w w3 := T1.out.trans ⟨by rw [o3.os, e2.os], by rw [o3.tape, e2.tape], by rw [o3.output, e2.output], by rw [o3.size]; exact e2.size, fun k hk hn => by rw [o3.block k (by omega), e2.block k (by omega)]⟩)
    | ((with_reducible refine wpList_load_met 25 (.tmp 5) b2 0 x.cells _ (some 15) B3.range Try.underlying25 rfl rsizeRec ?hg ?ho ?hds ?hx ?_); (case hg => rfl); (case ho => rfl); (case hds => rfl); (case hx => rfl))
    | ((with_reducible refine wpList_store_part 25 (.tmp 16) (.tmp 15) b 8 x.cells _ _ BB3 (Nat.le_of_ble_eq_true rfl) rsizeRec (Rec.cells_one1 _) ?hgd ?ho ?hx ?hy ?_); (case hgd => rfl); (case ho => rfl); (case hx => rfl); (case hy => rfl); (intro w4 B4 o4); replace B4 : Blk w4 b (({ m with sld := ⟨x, m.sld.tag⟩ }).cells u l) 39 := B4)
    | fail)
  go_ret2
  refine ⟨x, _, f, rfl, B4, ?_, HX.out⟩
  exact T3.trans (o4.turned (by simp))
set_option maxHeartbeats 2000000 in
/-- 'rest' with that closure. -/
theorem restRec_walk (q : Nat) (s : ByteArray) (br : Bool) (vb b : Nat) (m : MsgD) (u l : Value) (w : World) (hp : PartAt w q s true br) (hv : Blk w vb [.pointer (some ⟨b, 8, none⟩)] 100) (hb : Blk w b (m.cells u l) 39) (hne : b ≠ vb) (hbq : b ≠ q) (hs : s.size ≤ 1048576) :
    Calls Try.prog 70 #[.pointer (some ⟨q, 0, none⟩), .func (.func 71) #[] #[.pointer (some ⟨vb, 0, none⟩)]] w
      (Ends1 w q b true br 41 39 (recTake s.data.toList) (fun x => ({ m with sld := ⟨x, m.sld.tag⟩ }).cells u l)) := by
  have c0 := hp.c0
  have HP := Lib.hid hp
  clear hp
  go_enter Try.func70, Try.ntmps70
  go_wp2_with fail
  refine (recordc_walk s vb b m u l _ hv hb hne hs).mono ?_
  rintro e w1 ⟨x, left, f, rfl, B1, T1, hf⟩
  have P1 := HP.out.turned T1 (by simp; exact fun e => hbq e.symm)
  have HB := Lib.hid B1; have HT := Lib.hid T1; have HPP := Lib.hid P1
  clear B1 T1 P1 c0 hv hb
  have p0 := HPP.out.c0
  have pf := Blk.free HPP.out 0
  rcases hf with ⟨rfl, hc⟩ | ⟨rfl, hc⟩
  · have HC := Lib.hid hc
    clear hc
    go_wp2_with fail
    first | go_end0 | ((try simp only [Exit.inBlock, Exit.then]); refine bodyPost_ret (results_none rfl _ _ _) rfl ?_)
    rw [HC.out]
    exact ⟨rfl, ⟨left, Txt.self left, HPP.out.set left⟩, HB.out.set_other hbq _, (HT.out.mono (by simp)).setCell (.inl (by simp)) 0 _⟩
  · have HC := Lib.hid hc
    clear hc
    go_wp2_with fail
    refine ⟨rfl, ?_⟩
    rw [HC.out]
    exact ⟨rfl, ⟨_, rfl, HB.out⟩, HT.out.mono (by simp)⟩
set_option maxHeartbeats 2000000 in
theorem record_any (q : Nat) (s : ByteArray) (rd br : Bool) (b : Nat) (m : MsgD) (u l : Value) (w : World) (hp : PartAt w q s rd br) (hb : Blk w b (m.cells u l) 39) (hne : b ≠ q)
    (hs : s.size ≤ 1048576) (hx : rd = false → recOk m.sld.r = true) :
    Calls Try.prog 59 #[.pointer (some ⟨q, 0, none⟩), .pointer (some ⟨b, 8, none⟩)] w
      (Ends1 w q b rd br 41 39 (recF rd m.sld.r s.data.toList) (fun x => ({ m with sld := ⟨x, m.sld.tag⟩ }).cells u l)) := by
  have HP := Lib.hid hp; have HBL := Lib.hid hb
  have hmf := hmakef
  clear hp hb
  cases rd with
  | true =>
    go_enter Try.func59, Try.ntmps59
    go_wp2_with (first
      | ((with_reducible refine wpList_box_one 100 (.tmp 1) (.pointer (some ⟨b, 8, none⟩)) rfl (some 3) ?hgd ?ho ?hd ?hx ?_); (case hgd => rfl); (case ho => rfl); (case hd => rfl); (case hx => rfl); (intro b3 w3 l3 B3 e3 z3); have PP3 := HP.out.below e3 (Nat.lt_of_lt_of_le HP.out.lt l3); have q3 := PP3.c1)
      | fail)
    have BB3 := HBL.out.below e3 (Nat.lt_of_lt_of_le HBL.out.lt l3)
    have HPP := Lib.hid PP3; have HB3 := Lib.hid BB3; have HV := Lib.hid B3
    have T3 : Hid (Turned [q, b] w w3) := Lib.hid (Turned.of_below e3 l3)
    have hb3 : b ≠ b3 := by have := HBL.out.lt; omega
    clear PP3 BB3 B3 e3 z3 q3
    refine (restRec_walk q s br b3 b m u l _ HPP.out HV.out HB3.out hb3 hne hs).mono ?_
    rintro e w4 he
    have HX2 := Lib.hid (show recF true m.sld.r s.data.toList = recTake s.data.toList from rfl)
    cases h1 : recTake s.data.toList with
    | none =>
      rw [h1] at he
      obtain ⟨rfl, hbad⟩ := he
      have H1 := Lib.hid h1
      have HBAD := Lib.hid (hbad.sofar T3.out)
      clear h1 hbad
      go_wp2_with fail
      refine ⟨rfl, ?_⟩
      rw [HX2.out, H1.out]
      exact ⟨rfl, HBAD.out⟩
    | some p =>
      obtain ⟨y, s'⟩ := p
      rw [h1] at he
      obtain ⟨rfl, hd⟩ := he
      have H1 := Lib.hid h1
      have HD := Lib.hid (hd.sofar T3.out)
      clear h1 hd
      go_wp2_with fail
      first | go_end0 | ((try simp only [Exit.inBlock, Exit.then]); refine bodyPost_ret (results_none rfl _ _ _) rfl ?_)
      rw [HX2.out, H1.out]
      exact ⟨rfl, HD.out⟩
  | false =>
    have hok := hx rfl
    have hf := recOk_facts hok
    have HOK := Lib.hid hok
    have HF := Lib.hid (show m.sld.r.root.size ≤ 1048576 ∧ m.sld.r.name.size ≤ 1048576 ∧ Fits m.sld.r.epoch by unfold Fits; omega)
    skip
    clear hx hf hok
    go_enter Try.func59, Try.ntmps59
    go_wp2_with (first
      | ((with_reducible refine wpList_box_one 100 (.tmp 1) (.pointer (some ⟨b, 8, none⟩)) rfl (some 3) ?hgd ?ho ?hd ?hx ?_); (case hgd => rfl); (case ho => rfl); (case hd => rfl); (case hx => rfl); (intro b3 w3 l3 B3 e3 z3); have PP3 := HP.out.below e3 (Nat.lt_of_lt_of_le HP.out.lt l3); have q3 := PP3.c1; have v3 := B3.cell (i := 0) rfl; have BB3 := HBL.out.below e3 (Nat.lt_of_lt_of_le HBL.out.lt l3); have RR3 : w3.rangeAt b 8 (m.sld.r).cells := (BB3.ext (m.recAt u l)).part rfl)
      | ((with_reducible refine wpList_load_met 25 (.tmp 13) b 8 (m.sld.r).cells _ (some 14) RR3 Try.underlying25 rfl rsizeRec ?hg ?ho ?hds ?hx ?_); (case hg => rfl); (case ho => rfl); (case hds => rfl); (case hx => rfl))
      | fail)
    have T3 : Hid (Turned [q, b] w w3) := Lib.hid (Turned.of_below e3 l3)
    have HPP := Lib.hid PP3; have HB3 := Lib.hid BB3
    clear PP3 BB3 B3 e3 z3 q3 v3 RR3
    refine (recput_walk m.sld.r _ HF.out.1 HF.out.2.1 HF.out.2.2).mono ?_
    rintro e w4 ⟨he, hb4⟩
    obtain ⟨r, rfl, tr⟩ : ∃ r, e = .returned (.tuple #[.string r, .int .i64 0]) ∧ Txt r (recPut m.sld.r) := by
      rcases he with ⟨_, r, h1, h2⟩ | ⟨h1, _⟩
      · exact ⟨r, h1, h2⟩
      · rw [HOK.out] at h1; cases h1
    have hr : r.size ≤ 200 := by rw [tr.size]; exact Nat.le_trans (recPut_length HOK.out) (by omega)
    have P4 := HPP.out.below hb4 HPP.out.lt
    have B4 := Lib.hid (HB3.out.below hb4 HB3.out.lt)
    have T4 := Lib.hid (T3.out.trans (Turned.of_below hb4 (Nat.le_refl _)))
    have p0 := P4.c0
    have pf := Blk.free P4 0
    have HP4 := Lib.hid P4; have TR := Lib.hid tr
    clear P4 tr he hb4 HPP HB3 T3
    go_wp2_with fail
    first | go_end0 | ((try simp only [Exit.inBlock, Exit.then]); refine bodyPost_ret (results_none rfl _ _ _) rfl ?_)
    refine ⟨rfl, ⟨_, TR.out.extend, HP4.out.set _⟩, B4.out.set_other hne _, T4.out.setCell (.inl (by simp)) 0 _⟩
set_option maxHeartbeats 2000000 in
/-- The closure that reads a receipt. -/
theorem receiptc_walk (s : ByteArray) (vb b : Nat) (m : MsgD) (u l : Value) (w : World) (hv : Blk w vb [.pointer (some ⟨b, 30, none⟩)] 106) (hb : Blk w b (m.cells u l) 39) (hne : b ≠ vb) (hs : s.size ≤ 1048576) :
    Calls Try.prog 77 #[.string s, .pointer (some ⟨vb, 0, none⟩)] w fun e w' =>
      ∃ x left f, e = .returned (.tuple #[.string left, .int .i64 f]) ∧ Blk w' b (({ m with rcp := x }).cells u l) 39 ∧ Turned [b] w w' ∧ ((f = 0 ∧ rcpTake s.data.toList = some (x, left.data.toList)) ∨ (f = 3 ∧ rcpTake s.data.toList = none)) := by
  have HV := Lib.hid hv; have HBL := Lib.hid hb
  clear hv hb
  go_enter Try.func77, Try.ntmps77
  go_wp2_with fail
  refine (rcptake_walk s _ (by omega)).mono ?_
  rintro e w1 ⟨he, hb1⟩
  obtain ⟨x, y, f, rfl, hx⟩ : ∃ x y f, e = .returned (.tuple #[x.v, .string y, .int .i64 f]) ∧ ((f = 0 ∧ rcpTake s.data.toList = some (x, y.data.toList)) ∨ (f = 3 ∧ rcpTake s.data.toList = none)) := by
    rcases he with ⟨x, left, y, h1, h2, h3⟩ | ⟨h1, h2⟩
    · exact ⟨x, y, 0, h2, .inl ⟨rfl, by rw [h1, show y.data.toList = _ from h3]⟩⟩
    · exact ⟨_, _, 3, h2, .inr ⟨rfl, h1⟩⟩
  have HX := Lib.hid hx
  have V1 := Lib.hid (HV.out.below hb1 HV.out.lt)
  have B1 := Lib.hid (HBL.out.below hb1 HBL.out.lt)
  have T1 : Hid (Turned [b] w w1) := Lib.hid (Turned.of_below hb1 (Nat.le_refl _))
  clear he hx hb1 HV HBL
  go_wp2_with (first
    | ((with_reducible refine wpList_alloc_new 37 Rcp.zero.cells zeroRcp (some 5) ?hgd ?ho ?hd ?_); (case hgd => rfl); (case ho => rfl); (case hd => rfl); (intro b2 w2 l2 B2 e2 z2); have BB2 := B1.out.below e2 (Nat.lt_of_lt_of_le B1.out.lt l2); have VV2 := V1.out.below e2 (Nat.lt_of_lt_of_le V1.out.lt l2))
    | ((with_reducible refine wpList_store_new 37 (.tmp 5) (.tmp 11) b2 Rcp.zero.cells x.cells 37 B2 rfl rsizeRcp (Rcp.cells_one _) ?hgd ?ho ?hx ?hy ?_); (case hgd => rfl); (case ho => rfl); (case hx => rfl); (case hy => rfl); (intro w3 B3 o3); have BB3 := o3.blk BB2 (by have := B1.out.lt; omega); have VV3 := o3.blk VV2 (by have := V1.out.lt; omega); have v3 := VV3.cell (i := 0) rfl; have T3 : Turned [b] w w3 := T1.out.trans ⟨by rw [o3.os, e2.os], by rw [o3.tape, e2.tape], by rw [o3.output, e2.output], by rw [o3.size]; exact e2.size, fun k hk hn => by rw [o3.block k (by omega), e2.block k (by omega)]⟩)
    | ((with_reducible refine wpList_load_met 37 (.tmp 5) b2 0 x.cells _ (some 15) B3.range Try.underlying37 rfl rsizeRcp ?hg ?ho ?hds ?hx ?_); (case hg => rfl); (case ho => rfl); (case hds => rfl); (case hx => rfl))
    | ((with_reducible refine wpList_store_part 37 (.tmp 16) (.tmp 15) b 30 x.cells _ _ BB3 (Nat.le_of_ble_eq_true rfl) rsizeRcp (Rcp.cells_one _) ?hgd ?ho ?hx ?hy ?_); (case hgd => rfl); (case ho => rfl); (case hx => rfl); (case hy => rfl); (intro w4 B4 o4); replace B4 : Blk w4 b (({ m with rcp := x }).cells u l) 39 := B4)
    | fail)
  go_ret2
  refine ⟨x, _, f, rfl, B4, ?_, HX.out⟩
  exact T3.trans (o4.turned (by simp))
set_option maxHeartbeats 2000000 in
/-- 'rest' with that closure. -/
theorem restRcp_walk (q : Nat) (s : ByteArray) (br : Bool) (vb b : Nat) (m : MsgD) (u l : Value) (w : World) (hp : PartAt w q s true br) (hv : Blk w vb [.pointer (some ⟨b, 30, none⟩)] 106) (hb : Blk w b (m.cells u l) 39) (hne : b ≠ vb) (hbq : b ≠ q) (hs : s.size ≤ 1048576) :
    Calls Try.prog 70 #[.pointer (some ⟨q, 0, none⟩), .func (.func 77) #[] #[.pointer (some ⟨vb, 0, none⟩)]] w
      (Ends1 w q b true br 41 39 (rcpTake s.data.toList) (fun x => ({ m with rcp := x }).cells u l)) := by
  have c0 := hp.c0
  have HP := Lib.hid hp
  clear hp
  go_enter Try.func70, Try.ntmps70
  go_wp2_with fail
  refine (receiptc_walk s vb b m u l _ hv hb hne hs).mono ?_
  rintro e w1 ⟨x, left, f, rfl, B1, T1, hf⟩
  have P1 := HP.out.turned T1 (by simp; exact fun e => hbq e.symm)
  have HB := Lib.hid B1; have HT := Lib.hid T1; have HPP := Lib.hid P1
  clear B1 T1 P1 c0 hv hb
  have p0 := HPP.out.c0
  have pf := Blk.free HPP.out 0
  rcases hf with ⟨rfl, hc⟩ | ⟨rfl, hc⟩
  · have HC := Lib.hid hc
    clear hc
    go_wp2_with fail
    first | go_end0 | ((try simp only [Exit.inBlock, Exit.then]); refine bodyPost_ret (results_none rfl _ _ _) rfl ?_)
    rw [HC.out]
    exact ⟨rfl, ⟨left, Txt.self left, HPP.out.set left⟩, HB.out.set_other hbq _, (HT.out.mono (by simp)).setCell (.inl (by simp)) 0 _⟩
  · have HC := Lib.hid hc
    clear hc
    go_wp2_with fail
    refine ⟨rfl, ?_⟩
    rw [HC.out]
    exact ⟨rfl, ⟨_, rfl, HB.out⟩, HT.out.mono (by simp)⟩
set_option maxHeartbeats 2000000 in
theorem receipt_any (q : Nat) (s : ByteArray) (rd br : Bool) (b : Nat) (m : MsgD) (u l : Value) (w : World) (hp : PartAt w q s rd br) (hb : Blk w b (m.cells u l) 39) (hne : b ≠ q)
    (hs : s.size ≤ 1048576) (hx : rd = false → rcpOk m.rcp = true) :
    Calls Try.prog 62 #[.pointer (some ⟨q, 0, none⟩), .pointer (some ⟨b, 30, none⟩)] w
      (Ends1 w q b rd br 41 39 (rcpF rd m.rcp s.data.toList) (fun x => ({ m with rcp := x }).cells u l)) := by
  have HP := Lib.hid hp; have HBL := Lib.hid hb
  have hmf := hmakef
  clear hp hb
  cases rd with
  | true =>
    go_enter Try.func62, Try.ntmps62
    go_wp2_with (first
      | ((with_reducible refine wpList_box_one 106 (.tmp 1) (.pointer (some ⟨b, 30, none⟩)) rfl (some 3) ?hgd ?ho ?hd ?hx ?_); (case hgd => rfl); (case ho => rfl); (case hd => rfl); (case hx => rfl); (intro b3 w3 l3 B3 e3 z3); have PP3 := HP.out.below e3 (Nat.lt_of_lt_of_le HP.out.lt l3); have q3 := PP3.c1)
      | fail)
    have BB3 := HBL.out.below e3 (Nat.lt_of_lt_of_le HBL.out.lt l3)
    have HPP := Lib.hid PP3; have HB3 := Lib.hid BB3; have HV := Lib.hid B3
    have T3 : Hid (Turned [q, b] w w3) := Lib.hid (Turned.of_below e3 l3)
    have hb3 : b ≠ b3 := by have := HBL.out.lt; omega
    clear PP3 BB3 B3 e3 z3 q3
    refine (restRcp_walk q s br b3 b m u l _ HPP.out HV.out HB3.out hb3 hne hs).mono ?_
    rintro e w4 he
    have HX2 := Lib.hid (show rcpF true m.rcp s.data.toList = rcpTake s.data.toList from rfl)
    cases h1 : rcpTake s.data.toList with
    | none =>
      rw [h1] at he
      obtain ⟨rfl, hbad⟩ := he
      have H1 := Lib.hid h1
      have HBAD := Lib.hid (hbad.sofar T3.out)
      clear h1 hbad
      go_wp2_with fail
      refine ⟨rfl, ?_⟩
      rw [HX2.out, H1.out]
      exact ⟨rfl, HBAD.out⟩
    | some p =>
      obtain ⟨y, s'⟩ := p
      rw [h1] at he
      obtain ⟨rfl, hd⟩ := he
      have H1 := Lib.hid h1
      have HD := Lib.hid (hd.sofar T3.out)
      clear h1 hd
      go_wp2_with fail
      first | go_end0 | ((try simp only [Exit.inBlock, Exit.then]); refine bodyPost_ret (results_none rfl _ _ _) rfl ?_)
      rw [HX2.out, H1.out]
      exact ⟨rfl, HD.out⟩
  | false =>
    have hok := hx rfl
    have hf := recOk_facts (rcpOk_rec hok).1
    have HOK := Lib.hid hok
    have HF := Lib.hid (show m.rcp.r.root.size ≤ 1048576 ∧ m.rcp.r.name.size ≤ 1048576 ∧ Fits m.rcp.r.epoch by unfold Fits; omega)
    have HSQ := Lib.hid (show Fits m.rcp.seq by simp only [rcpOk, Bool.and_eq_true, decide_eq_true_eq] at hok; unfold Fits; omega)
    clear hx hf hok
    go_enter Try.func62, Try.ntmps62
    go_wp2_with (first
      | ((with_reducible refine wpList_box_one 106 (.tmp 1) (.pointer (some ⟨b, 30, none⟩)) rfl (some 3) ?hgd ?ho ?hd ?hx ?_); (case hgd => rfl); (case ho => rfl); (case hd => rfl); (case hx => rfl); (intro b3 w3 l3 B3 e3 z3); have PP3 := HP.out.below e3 (Nat.lt_of_lt_of_le HP.out.lt l3); have q3 := PP3.c1; have v3 := B3.cell (i := 0) rfl; have BB3 := HBL.out.below e3 (Nat.lt_of_lt_of_le HBL.out.lt l3); have RR3 : w3.rangeAt b 30 (m.rcp).cells := (BB3.ext (m.rcpAt u l)).part rfl)
      | ((with_reducible refine wpList_load_met 37 (.tmp 13) b 30 (m.rcp).cells _ (some 14) RR3 Try.underlying37 rfl rsizeRcp ?hg ?ho ?hds ?hx ?_); (case hg => rfl); (case ho => rfl); (case hds => rfl); (case hx => rfl))
      | fail)
    have T3 : Hid (Turned [q, b] w w3) := Lib.hid (Turned.of_below e3 l3)
    have HPP := Lib.hid PP3; have HB3 := Lib.hid BB3
    clear PP3 BB3 B3 e3 z3 q3 v3 RR3
    refine (rcpput_walk m.rcp _ HF.out.1 HF.out.2.1 HF.out.2.2 HSQ.out).mono ?_
    rintro e w4 ⟨he, hb4⟩
    obtain ⟨r, rfl, tr⟩ : ∃ r, e = .returned (.tuple #[.string r, .int .i64 0]) ∧ Txt r (rcpPut m.rcp) := by
      exact he.yes HOK.out
    have hr : r.size ≤ 200 := by rw [tr.size]; exact rcpPut_length HOK.out
    have P4 := HPP.out.below hb4 HPP.out.lt
    have B4 := Lib.hid (HB3.out.below hb4 HB3.out.lt)
    have T4 := Lib.hid (T3.out.trans (Turned.of_below hb4 (Nat.le_refl _)))
    have p0 := P4.c0
    have pf := Blk.free P4 0
    have HP4 := Lib.hid P4; have TR := Lib.hid tr
    clear P4 tr he hb4 HPP HB3 T3
    go_wp2_with fail
    first | go_end0 | ((try simp only [Exit.inBlock, Exit.then]); refine bodyPost_ret (results_none rfl _ _ _) rfl ?_)
    refine ⟨rfl, ⟨_, TR.out.extend, HP4.out.set _⟩, B4.out.set_other hne _, T4.out.setCell (.inl (by simp)) 0 _⟩
end Go.Proofs.Ytkdplgcffdaoaaa
