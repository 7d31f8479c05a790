/- Walk of ReceiptChecks: for every root, first epoch, receipt and text the law returns true. No condition. -/
import Derived.Test.YtmiikdkdccheeaaGreatTakeRef3
import Derived.Test.YtmiikdkdccheeaaGreatG10
import Derived.Test.YtmiikdkdccheeaaGreatG9
import Derived.Test.YtmiikdkdccheeaaGreatLoad
namespace Go.Proofs.YtmiikdkdccheeaaGreat
set_option linter.unusedSimpArgs false
set_option linter.unusedVariables false
open Go Go.RowKit
set_option linter.unusedVariables false

theorem RcpAt.drew {w : World} {b : Nat} {x : Rcp} (h : RcpAt w b x) : RcpAt w.drew b x := ⟨h.lt, h.at_⟩
theorem RcpAt.range {w : World} {b : Nat} {x : Rcp} (h : RcpAt w b x) : w.rangeAt b 0 x.cells := fun j u hu => by rw [Nat.zero_add]; exact h.at_ j u hu
/-- What ReceiptChecks goes through. -/
def RChkIn (root : ByteArray) (first : Int) (x : Rcp) (s : ByteArray) : Prop := root.size ≤ 1000 ∧ fewRcp x = true ∧ s.size ≤ 10000 ∧ ¬ (0 ≤ first ∧ first ≤ x.r.epoch ∧ 40 < x.r.epoch - first ∧ x.r.epoch - first ≤ 4096)

set_option maxRecDepth 100000 in
set_option maxHeartbeats 4000000 in
theorem rchecks_few (root : ByteArray) (first : Int) (x : Rcp) (s : ByteArray) (w : World) (hx : RcpFits x) (hf1 : Fits first) (hn : ¬ RChkIn root first x s) :
    Calls Tryz.prog 3 #[.string root, .int .i64 first, x.v, .string s] w fun e w' => e = .returned (.bool true) ∧ Below w.heap.size w w' := by
  have HN := Lib.hid hn; clear hn
  have hw : 0 ≤ first → first ≤ x.r.epoch → wrap64 (x.r.epoch - first) = x.r.epoch - first := by
    intro h1 h2
    have := hx.r.epoch.2
    have := hf1.2
    exact IntWalk.wrap64_in _ ⟨by omega, by omega⟩
  have HWR := Lib.hid hw; clear hw
  by_cases c1 : 1000 < root.size
  · have d1 : (1000 : Int) < root.size := by omega
    clear c1
    go_enter Tryz.func3, Tryz.ntmps3
    go_wp2_with (((with_reducible refine wpList_box_new 25 (.tmp 2) x.cells (some 6) ?hgd ?ho ?hd ?hx ?_); (case hgd => rfl); (case ho => rfl); (case hd => rfl); (case hx => rfl); (intro b w0 l0 B0 e0 z0; have R0 := Lib.hid (RcpAt.blk B0); obtain ⟨a0, a1, a2, a3, a4, a5, a6, a7, a8, a9, aA⟩ := R0.out.cells_)))
    clear a0 a1 a2 a3 a4 a5 a6 a7 a8 a9 aA
    go_wp2_with fail
    refine (alive21 _).mono ?_
    rintro e wz ⟨rfl, hbz⟩
    go_wp2_with fail
    go_ret
    exact ⟨rfl, (e0.mono l0).trans (hbz.mono (e0.mono l0).size)⟩
  have d1 : (root.size : Int) ≤ 1000 := by omega
  cases c2 : fewRcp x with
  | false =>
    have H2 := Lib.hid c2; clear c2
    go_enter Tryz.func3, Tryz.ntmps3
    go_wp2_with (((with_reducible refine wpList_box_new 25 (.tmp 2) x.cells (some 6) ?hgd ?ho ?hd ?hx ?_); (case hgd => rfl); (case ho => rfl); (case hd => rfl); (case hx => rfl); (intro b w0 l0 B0 e0 z0; have R0 := Lib.hid (RcpAt.blk B0); obtain ⟨a0, a1, a2, a3, a4, a5, a6, a7, a8, a9, aA⟩ := R0.out.cells_)))
    clear a0 a1 a2 a3 a4 a5 a6 a7 a8 a9 aA
    refine (few21_walk x _).mono ?_
    rintro e w1 ⟨rfl, hb1⟩
    have R1 := Lib.hid (R0.out.below hb1 z0)
    have HW1 := Lib.hid ((e0.mono l0).trans (hb1.mono (by have := e0.size; omega)))
    clear R0 B0 e0 l0 z0 hb1
    rw [H2.out]
    go_wp2_with fail
    refine (alive21 _).mono ?_
    rintro e wz ⟨rfl, hbz⟩
    go_wp2_with fail
    go_ret
    exact ⟨rfl, HW1.out.trans (hbz.mono HW1.out.size)⟩
  | true =>
    have H2 := Lib.hid c2; clear c2
    by_cases c3 : 10000 < s.size
    · have d3 : (10000 : Int) < s.size := by omega
      clear c3
      go_enter Tryz.func3, Tryz.ntmps3
      go_wp2_with (((with_reducible refine wpList_box_new 25 (.tmp 2) x.cells (some 6) ?hgd ?ho ?hd ?hx ?_); (case hgd => rfl); (case ho => rfl); (case hd => rfl); (case hx => rfl); (intro b w0 l0 B0 e0 z0; have R0 := Lib.hid (RcpAt.blk B0); obtain ⟨a0, a1, a2, a3, a4, a5, a6, a7, a8, a9, aA⟩ := R0.out.cells_)))
      clear a0 a1 a2 a3 a4 a5 a6 a7 a8 a9 aA
      refine (few21_walk x _).mono ?_
      rintro e w1 ⟨rfl, hb1⟩
      have R1 := Lib.hid (R0.out.below hb1 z0)
      have HW1 := Lib.hid ((e0.mono l0).trans (hb1.mono (by have := e0.size; omega)))
      clear R0 B0 e0 l0 z0 hb1
      rw [H2.out]
      go_wp2_with fail
      refine (alive21 _).mono ?_
      rintro e wz ⟨rfl, hbz⟩
      go_wp2_with fail
      go_ret
      exact ⟨rfl, HW1.out.trans (hbz.mono HW1.out.size)⟩
    have d3 : (s.size : Int) ≤ 10000 := by omega
    have hbig : 0 ≤ first ∧ first ≤ x.r.epoch ∧ 40 < x.r.epoch - first ∧ x.r.epoch - first ≤ 4096 := by
      by_cases h : 0 ≤ first ∧ first ≤ x.r.epoch ∧ 40 < x.r.epoch - first ∧ x.r.epoch - first ≤ 4096
      · exact h
      · exact absurd ⟨by omega, H2.out, by omega, h⟩ HN.out
    obtain ⟨f0, f1, f2, f3⟩ := hbig
    have hwr := HWR.out f0 f1
    clear c1 c3
    go_enter Tryz.func3, Tryz.ntmps3
    go_wp2_with (((with_reducible refine wpList_box_new 25 (.tmp 2) x.cells (some 6) ?hgd ?ho ?hd ?hx ?_); (case hgd => rfl); (case ho => rfl); (case hd => rfl); (case hx => rfl); (intro b w0 l0 B0 e0 z0; have R0 := Lib.hid (RcpAt.blk B0); obtain ⟨a0, a1, a2, a3, a4, a5, a6, a7, a8, a9, aA⟩ := R0.out.cells_)))
    clear a0 a1 a2 a3 a4 a5 a6 a7 a8 a9 aA
    refine (few21_walk x _).mono ?_
    rintro e w1 ⟨rfl, hb1⟩
    have R1 := Lib.hid (R0.out.below hb1 z0)
    have HW1 := Lib.hid ((e0.mono l0).trans (hb1.mono (by have := e0.size; omega)))
    clear R0 B0 e0 l0 z0 hb1
    rw [H2.out]
    obtain ⟨a0, a1, a2, a3, a4, a5, a6, a7, a8, a9, aA⟩ := R1.out.cells_
    go_wp2_with fail
    refine (alive21 _).mono ?_
    rintro e wz ⟨rfl, hbz⟩
    go_wp2_with fail
    go_ret
    exact ⟨rfl, HW1.out.trans (hbz.mono HW1.out.size)⟩

set_option maxRecDepth 100000 in
set_option maxHeartbeats 8000000 in
theorem rchecks_walk (root : ByteArray) (first : Int) (x : Rcp) (s : ByteArray) (w : World) (hx : RcpFits x) (hf1 : Fits first) (hin : RChkIn root first x s) :
    Calls Tryz.prog 3 #[.string root, .int .i64 first, x.v, .string s] w fun e w' => e = .returned (.bool true) ∧ Below w.heap.size w w' := by
  obtain ⟨c1, c2, c3, c4⟩ := hin
  have hw : 0 ≤ first → first ≤ x.r.epoch → wrap64 (x.r.epoch - first) = x.r.epoch - first := by
    intro h1 h2
    have := hx.r.epoch.2
    have := hf1.2
    exact IntWalk.wrap64_in _ ⟨by omega, by omega⟩
  have HWR := Lib.hid hw; clear hw
  have d1 : (root.size : Int) ≤ 1000 := by omega
  have d3 : (s.size : Int) ≤ 10000 := by omega
  have hsz : x.r.root.size ≤ 1048576 ∧ x.r.name.size ≤ 1048576 ∧ x.was.size ≤ 1000 := by
    have h2' := c2
    simp only [fewRcp, fewR, Bool.and_eq_true, decide_eq_true_eq] at h2'
    omega
  have HSZ := Lib.hid hsz; clear hsz
  have H2 := Lib.hid c2; clear c2
  have H4 := Lib.hid c4; clear c4
  clear c1
  go_enter Tryz.func3, Tryz.ntmps3
  go_upto_region 1 with (((with_reducible refine wpList_box_new 25 (.tmp 2) x.cells (some 6) ?hgd ?ho ?hd ?hx ?_); (case hgd => rfl); (case ho => rfl); (case hd => rfl); (case hx => rfl); (intro b w0 l0 B0 e0 z0; have R0 := Lib.hid (RcpAt.blk B0); obtain ⟨a0, a1, a2, a3, a4, a5, a6, a7, a8, a9, aA⟩ := R0.out.cells_)))
  clear a0 a1 a2 a3 a4 a5 a6 a7 a8 a9 aA
  have HW0 := Lib.hid (e0.mono l0)
  go_cut [63] from 24 to 63 (fun v wc => v = .bool false ∧ RcpAt wc b x ∧ Below w.heap.size w wc)
  case first =>
    obtain ⟨a0, a1, a2, a3, a4, a5, a6, a7, a8, a9, aA⟩ := R0.out.cells_
    by_cases f0 : 0 ≤ first
    · by_cases f1 : first ≤ x.r.epoch
      · have hwr := HWR.out f0 f1
        by_cases f2 : 40 < x.r.epoch - first
        · have f3 : 4096 < x.r.epoch - first := by
            by_cases h : x.r.epoch - first ≤ 4096
            · exact absurd ⟨f0, f1, f2, h⟩ H4.out
            · omega
          go_wp2_with (go_at_call 5; refine (few21_walk x _).mono ?_; rintro e w1 ⟨rfl, hb1⟩; rw [H2.out]; have R1 := R0.out.below hb1 z0; have HW1 := HW0.out.trans (hb1.mono HW0.out.size); obtain ⟨_, _, a2, _, _, _, _, _, _, _, _⟩ := R1.cells_)
          all_goals go_meet
          all_goals exact ⟨congrArg Value.bool (by simp; omega), R1, HW1⟩
        · have f2' : x.r.epoch - first ≤ 40 := by omega
          go_wp2_with (go_at_call 5; refine (few21_walk x _).mono ?_; rintro e w1 ⟨rfl, hb1⟩; rw [H2.out]; have R1 := R0.out.below hb1 z0; have HW1 := HW0.out.trans (hb1.mono HW0.out.size); obtain ⟨_, _, a2, _, _, _, _, _, _, _, _⟩ := R1.cells_)
          all_goals go_meet
          all_goals exact ⟨congrArg Value.bool (by simp; omega), R1, HW1⟩
      · have f1' : x.r.epoch < first := by omega
        go_wp2_with (go_at_call 5; refine (few21_walk x _).mono ?_; rintro e w1 ⟨rfl, hb1⟩; rw [H2.out]; have R1 := R0.out.below hb1 z0; have HW1 := HW0.out.trans (hb1.mono HW0.out.size); obtain ⟨_, _, a2, _, _, _, _, _, _, _, _⟩ := R1.cells_)
        all_goals go_meet
        all_goals exact ⟨congrArg Value.bool (by simp; omega), R1, HW1⟩
    · have f0' : first < 0 := by omega
      go_wp2_with (go_at_call 5; refine (few21_walk x _).mono ?_; rintro e w1 ⟨rfl, hb1⟩; rw [H2.out]; have R1 := R0.out.below hb1 z0; have HW1 := HW0.out.trans (hb1.mono HW0.out.size); obtain ⟨_, _, a2, _, _, _, _, _, _, _, _⟩ := R1.cells_)
      all_goals go_meet
      all_goals exact ⟨congrArg Value.bool (by simp; omega), R1, HW1⟩
  case rest =>
    obtain ⟨rfl, hR, hB⟩ := hcut
    have R1 := Lib.hid hR
    have HW1 := Lib.hid hB
    clear HW0 R0 B0 e0 z0 hR hB
    obtain ⟨a0, a1, a2, a3, a4, a5, a6, a7, a8, a9, aA⟩ := R1.out.cells_
    go_wp2_with fail
    go_cut [73] from 65 to 73 (fun v w2 => v = .bool false ∧ RcpAt w2 b x ∧ Below w.heap.size w w2)
    case first =>
      have RD := R1.out.drew
      have HBD := HW1.out.drew
      go_region_with ((first
        | (go_at_call 7; refine (rcheck21_walk root first x _ HSZ.out.1 HSZ.out.2.1 hx.r.epoch hx.seq).mono ?_; rintro e wA ⟨rfl, hbA⟩; have RA : RcpAt wA b x := (by first | exact RD.below hbA RD.lt | exact RB.below hbA RB.lt); have HA : Below w.heap.size w wA := (by first | exact HBD.trans (hbA.mono HBD.size) | exact HB.trans (hbA.mono HB.size)); obtain ⟨p0, p1, p2, p3, p4, p5, p6, p7, p8, p9, pA⟩ := RA.cells_)
        | (go_at_call 8; refine (rrcheck21_walk root first x _ HSZ.out.1 HSZ.out.2.1 hx.r.epoch hx.seq).mono ?_; rintro e wB ⟨rfl, hbB⟩; have RB : RcpAt wB b x := (by first | exact RD.below hbB RD.lt | exact RA.below hbB RA.lt); have HB : Below w.heap.size w wB := (by first | exact HBD.trans (hbB.mono HBD.size) | exact HA.trans (hbB.mono HA.size)); obtain ⟨q0, q1, q2, q3, q4, q5, q6, q7, q8, q9, qA⟩ := RB.cells_)
        | fail))
      all_goals go_wp2_with fail
      all_goals go_meet
      all_goals first
        | exact ⟨by simp, RB, HB⟩
        | exact ⟨by simp, RA, HA⟩
    case rest =>
      obtain ⟨rfl, hR, hB⟩ := hcut
      clear a0 a1 a2 a3 a4 a5 a6 a7 a8 a9 aA
      have R2 := Lib.hid hR
      have HW2 := Lib.hid hB
      clear R1 HW1 hR hB
      obtain ⟨a0, a1, a2, a3, a4, a5, a6, a7, a8, a9, aA⟩ := R2.out.cells_
      go_wp2_with fail
      clear a0 a1 a2 a3 a4 a5 a6 a7 a8 a9 aA
      refine (rcpput_walk x _ HSZ.out.1 HSZ.out.2.1 hx.r.epoch hx.seq).mono ?_
      rintro e w3 ⟨he3, hb3⟩
      have R3 := Lib.hid (R2.out.below hb3 R2.out.lt)
      have HW3 := Lib.hid (HW2.out.trans (hb3.mono HW2.out.size))
      have HE3 := Lib.hid he3
      clear he3 hb3 R2 HW2
      obtain ⟨p, f, hp, hpf⟩ : ∃ p f, e = .returned (.tuple #[.string p, .int .i64 f]) ∧ ((rcpOk x = true ∧ f = 0 ∧ Txt p (rcpPut x)) ∨ (rcpOk x = false ∧ f = 2 ∧ Txt p [])) := by
        rcases HE3.out with ⟨h, p, h1, h2⟩ | ⟨h, h1⟩
        · exact ⟨p, 0, h1, .inl ⟨h, rfl, h2⟩⟩
        · exact ⟨_, 2, h1, .inr ⟨by cases hh : rcpOk x <;> simp_all, rfl, rfl⟩⟩
      subst hp
      clear HE3
      have HPF := Lib.hid hpf; clear hpf
      obtain ⟨a0, a1, a2, a3, a4, a5, a6, a7, a8, a9, aA⟩ := R3.out.cells_
      go_wp2_with fail
      clear a0 a1 a2 a3 a4 a5 a6 a7 a8 a9 aA
      refine (rrcpput_walk x _ HSZ.out.1 HSZ.out.2.1 hx.r.epoch hx.seq).mono ?_
      rintro e w4 ⟨he4, hb4⟩
      have R4 := Lib.hid (R3.out.below hb4 R3.out.lt)
      have HW4 := Lib.hid (HW3.out.trans (hb4.mono HW3.out.size))
      have HE4 := Lib.hid he4
      clear he4 hb4 R3 HW3
      obtain ⟨p', hp', hpt⟩ : ∃ p', e = .returned (.tuple #[.string p', .bool (rcpOk x)]) ∧ Txt p' (if rcpOk x then rcpPut x else []) := by
        rcases HE4.out with ⟨h, p, h1, h2⟩ | ⟨h, h1⟩
        · rw [h]; exact ⟨p, h1, h2⟩
        · have hh : rcpOk x = false := by cases hh : rcpOk x <;> simp_all
          rw [hh]; exact ⟨_, h1, rfl⟩
      subst hp'
      clear HE4
      have HPT := Lib.hid hpt; clear hpt
      go_wp2_with fail
      refine (rcptake_walk s _ (by omega)).mono ?_
      rintro e w5 ⟨he5, hb5⟩
      have R5 := Lib.hid (R4.out.below hb5 R4.out.lt)
      have HW5 := Lib.hid (HW4.out.trans (hb5.mono HW4.out.size))
      have HE5 := Lib.hid he5
      clear he5 hb5 R4 HW4
      obtain ⟨X, y, g, he, hXg⟩ : ∃ X y g, e = .returned (.tuple #[X.v, .string y, .int .i64 g]) ∧ ((g = 0 ∧ rcpTake s.data.toList = some (X, y.data.toList)) ∨ (g = 3 ∧ rcpTake s.data.toList = none ∧ X = Rcp.zero ∧ y = ⟨#[]⟩)) := by
        rcases HE5.out with ⟨X, left, y, h1, h2, h3⟩ | ⟨h1, h2⟩
        · exact ⟨X, y, 0, h2, .inl ⟨rfl, by rw [h1, show y.data.toList = _ from h3]⟩⟩
        · exact ⟨Rcp.zero, _, 3, h2, .inr ⟨rfl, h1, rfl, rfl⟩⟩
      subst he
      clear HE5
      have HXG := Lib.hid hXg; clear hXg
      go_wp2_with (first
        | ((with_reducible refine wpList_alloc_new 25 Rcp.zero.cells zeroRcp (some 13) ?hgd ?ho ?hd ?_); (case hgd => rfl); (case ho => rfl); (case hd => rfl); (intro b13 w6 l6 B6 e6 z6))
        | ((with_reducible refine wpList_store_new 25 (.tmp 13) (.tmp 87) b13 Rcp.zero.cells X.cells 25 B6 rfl rsizeRcp (Rcp.cells_one _) ?hgd ?ho ?hx ?hy ?_); (case hgd => rfl); (case ho => rfl); (case hx => rfl); (case hy => rfl); (intro w7 B7 o7))
        | fail)
      have hb7 := o7.below (e6.mono l6) l6
      have R7 := Lib.hid (R5.out.below hb7 R5.out.lt)
      have HW7 := Lib.hid (HW5.out.trans (hb7.mono HW5.out.size))
      have H13 := Lib.hid B7
      clear B6 B7 o7 e6 l6 z6 hb7 R5 HW5
      refine (rrcptake_walk s _ (by omega)).mono ?_
      rintro e w8 ⟨he8, hb8⟩
      have R8 := Lib.hid (R7.out.below hb8 R7.out.lt)
      have HW8 := Lib.hid (HW7.out.trans (hb8.mono HW7.out.size))
      have H13b := Lib.hid (H13.out.below hb8 H13.out.lt)
      have HE8 := Lib.hid he8
      clear he8 hb8 R7 HW7 H13
      obtain ⟨y', so, he, hy'⟩ : ∃ y' so, e = .returned (.tuple #[X.v, .string y', .bool so]) ∧ y'.data.toList = y.data.toList ∧ ((so = true ∧ g = 0) ∨ (so = false ∧ g = 3)) := by
        rcases HE8.out with ⟨X', left, y', h1, h2, h3⟩ | ⟨h1, h2⟩
        · rcases HXG.out with ⟨h4, h5⟩ | ⟨_, h5, _⟩
          · rw [h1] at h5
            injection h5 with h5
            injection h5 with h5 h6
            subst h5
            exact ⟨y', true, h2, by rw [show y'.data.toList = _ from h3, h6], .inl ⟨rfl, h4⟩⟩
          · rw [h1] at h5; cases h5
        · rcases HXG.out with ⟨_, h5⟩ | ⟨h4, _, h5, h6⟩
          · rw [h1] at h5; cases h5
          · subst h5 h6
            exact ⟨_, false, h2, rfl, .inr ⟨rfl, h4⟩⟩
      subst he
      clear HE8
      have HY := Lib.hid hy'; clear hy'
      have s1 : (p.toList == p'.toList) = true := by
        have h1 := HPT.out
        rcases HPF.out with ⟨h2, _, h3⟩ | ⟨h2, _, h3⟩
        · rw [h2, if_pos rfl] at h1; exact Txt.same h3 h1 rfl
        · rw [h2] at h1; exact Txt.same h3 h1 rfl
      have s2 : (y.toList == y'.toList) = true := Txt.same (Txt.self y) (Txt.self y') HY.out.1.symm
      have HS1 := Lib.hid s1; clear s1
      have HS2 := Lib.hid s2; clear s2
      -- what is decided: the receipt, the text
      rcases HPF.out with ⟨ok, rfl, tp⟩ | ⟨ok, rfl, tp⟩
      · have hpsz : p.size ≤ 10000 := by
          rw [tp.size]
          have h1 := recPut_length (rcpOk_rec ok).1
          have hq := ok
          simp only [rcpOk, Bool.and_eq_true, decide_eq_true_eq] at hq
          unfold rcpPut
          rw [List.length_append, List.length_append, List.length_append, beBytes_length]
          have e1 : x.was.data.toList.length = x.was.size := rfl
          have e2 : x.tag.data.toList.length = x.tag.size := rfl
          omega
        rw [ok]
        rcases HY.out.2 with ⟨rfl, rfl⟩ | ⟨rfl, rfl⟩
        · go_wp2_with (first
            | ((with_reducible refine wpList_alloc_new 25 Rcp.zero.cells zeroRcp (some 16) ?hgd ?ho ?hd ?_); (case hgd => rfl); (case ho => rfl); (case hd => rfl); (intro b16 w9 l9 B9 e9 z9))
            | ((with_reducible refine wpList_store_new 25 (.tmp 16) (.tmp 93) b16 Rcp.zero.cells X.cells 25 B9 rfl rsizeRcp (Rcp.cells_one _) ?hgd ?ho ?hx ?hy ?_); (case hgd => rfl); (case ho => rfl); (case hx => rfl); (case hy => rfl); (intro w10 B10 o10; have hb10 := o10.below (e9.mono l9) l9; have R10 := Lib.hid (R8.out.below hb10 R8.out.lt); have HW10 := Lib.hid (HW8.out.trans (hb10.mono HW8.out.size)); have G13 := Lib.hid (H13b.out.below hb10 H13b.out.lt); have G16 := Lib.hid B10; have s1 := HS1.out; have s2 := HS2.out))
            | ((with_reducible refine wpList_load_met 25 (.tmp 13) b13 0 X.cells _ (some 114) G13.out.range Tryz.underlying25 rfl rsizeRcp ?hg ?ho ?hds ?hx ?_); (case hg => rfl); (case ho => rfl); (case hds => rfl); (case hx => rfl))
            | ((with_reducible refine wpList_load_met 25 (.tmp 16) b16 0 X.cells _ (some 115) G16.out.range Tryz.underlying25 rfl rsizeRcp ?hg ?ho ?hds ?hx ?_); (case hg => rfl); (case ho => rfl); (case hds => rfl); (case hx => rfl))
            | ((with_reducible refine wpList_neq_agg 25 25 (.tmp 114) (.tmp 115) X.cells.toArray X.cells.toArray _ (some 116) guardRcp (eqRcpT X _) ?hgd ?ho ?hd ?hx ?hy ?_); (case hgd => rfl); (case ho => rfl); (case hd => rfl); (case hx => rfl); (case hy => rfl))
            | ((with_reducible refine wpList_load_met 25 (.tmp 13) b13 0 X.cells _ (some 139) G13.out.range Tryz.underlying25 rfl rsizeRcp ?hg ?ho ?hds ?hx ?_); (case hg => rfl); (case ho => rfl); (case hds => rfl); (case hx => rfl))
            | fail)
          have hback : s.data.toList = rcpPut X ++ y.data.toList ∧ rcpOk X = true := by
            rcases HXG.out with ⟨_, h5⟩ | ⟨h4, _⟩
            · exact rcpTake_back h5
            · cases h4
          have HBK := Lib.hid hback; clear hback
          have hXr := recOk_facts (rcpOk_rec HBK.out.2).1
          have hXq := HBK.out.2
          simp only [rcpOk, Bool.and_eq_true, decide_eq_true_eq] at hXq
          have hX1 : X.r.root.size ≤ 1048576 := by omega
          have hX2 : X.r.name.size ≤ 1048576 := by omega
          have hX3 : Fits X.r.epoch := by unfold Fits; omega
          have hX4 : Fits X.seq := by unfold Fits; omega
          have HXS := Lib.hid (And.intro hX1 (And.intro hX2 (And.intro hX3 hX4)))
          have hys : y.size ≤ 10000 := by
            have h1 := congrArg List.length HBK.out.1
            rw [List.length_append] at h1
            have e1 : s.data.toList.length = s.size := rfl
            have e2 : y.data.toList.length = y.size := rfl
            omega
          have hpl : (rcpPut X).length ≤ 10000 := by
            have h1 := congrArg List.length HBK.out.1
            rw [List.length_append] at h1
            have e1 : s.data.toList.length = s.size := rfl
            omega
          have HPL := Lib.hid hpl
          clear hXr hXq hX1 hX2 hX3 hX4 s1 s2 hpl
          refine (rcpput_walk X _ HXS.out.1 HXS.out.2.1 HXS.out.2.2.1 HXS.out.2.2.2).mono ?_
          rintro e w11 ⟨he11, hb11⟩
          obtain ⟨q, rfl, tq⟩ := he11.yes HBK.out.2
          have hqs : q.size ≤ 10000 := by rw [tq.size]; exact HPL.out
          have R11 := Lib.hid (R10.out.below hb11 R10.out.lt)
          have HW11 := Lib.hid (HW10.out.trans (hb11.mono HW10.out.size))
          have s3 : ((q ++ y).toList == s.toList) = true := (tq.append (Txt.self y)).same (Txt.self s) HBK.out.1.symm
          clear he11 hb11 tq R10 HW10
          go_wp2_with fail
          clear s3
          have hps2 : (p ++ s).size ≤ 1073741824 := by
            have : (p ++ s).size = p.size + s.size := by simp
            omega
          have tps : Txt (p ++ s) (rcpPut x ++ s.data.toList) := tp.append (Txt.self s)
          have hT : rcpTake (p ++ s).data.toList = some (x, s.data.toList) := by rw [show (p ++ s).data.toList = _ from tps]; exact rcpTake_put ok _
          have HTT := Lib.hid hT
          have HPS := Lib.hid hps2
          clear hT hps2 tps
          refine (rcptake_walk (p ++ s) _ HPS.out).mono ?_
          rintro e w12 ⟨he12, hb12⟩
          have R12 := Lib.hid (R11.out.below hb12 R11.out.lt)
          have HW12 := Lib.hid (HW11.out.trans (hb12.mono HW11.out.size))
          obtain ⟨y2, rfl, ty2⟩ : ∃ y2, e = .returned (.tuple #[x.v, .string y2, .int .i64 0]) ∧ Txt y2 s.data.toList := by
            rcases he12 with ⟨X', left, y', h1, h2, h3⟩ | ⟨h1, h2⟩
            · rw [HTT.out] at h1
              injection h1 with h1
              injection h1 with h5 h6
              subst h5 h6
              exact ⟨y', h2, h3⟩
            · rw [HTT.out] at h1; cases h1
          have s5 : (y2.toList == s.toList) = true := ty2.same (Txt.self s) rfl
          clear he12 hb12 ty2
          go_wp2_with (first
            | ((with_reducible refine wpList_alloc_new 25 Rcp.zero.cells zeroRcp (some 21) ?hgd ?ho ?hd ?_); (case hgd => rfl); (case ho => rfl); (case hd => rfl); (intro b21 w13 l13 B13 e13 z13))
            | ((with_reducible refine wpList_store_new 25 (.tmp 21) (.tmp 160) b21 Rcp.zero.cells x.cells 25 B13 rfl rsizeRcp (Rcp.cells_one _) ?hgd ?ho ?hx ?hy ?_); (case hgd => rfl); (case ho => rfl); (case hx => rfl); (case hy => rfl); (intro w14 B14 o14; have hb14 := o14.below (e13.mono l13) l13; have R14 := Lib.hid (R12.out.below hb14 R12.out.lt); have HW14 := Lib.hid (HW12.out.trans (hb14.mono HW12.out.size)); have G21 := Lib.hid B14))
            | ((with_reducible refine wpList_load_met 25 (.tmp 21) b21 0 x.cells _ (some 163) G21.out.range Tryz.underlying25 rfl rsizeRcp ?hg ?ho ?hds ?hx ?_); (case hg => rfl); (case ho => rfl); (case hds => rfl); (case hx => rfl))
            | ((with_reducible refine wpList_load_met 25 (.tmp 6) b 0 x.cells _ (some 164) R14.out.range Tryz.underlying25 rfl rsizeRcp ?hg ?ho ?hds ?hx ?_); (case hg => rfl); (case ho => rfl); (case hds => rfl); (case hx => rfl))
            | ((with_reducible refine wpList_eq_agg 25 25 (.tmp 163) (.tmp 164) x.cells.toArray x.cells.toArray _ (some 165) guardRcp (eqRcpT x _) ?hgd ?ho ?hd ?hx ?hy ?_); (case hgd => rfl); (case ho => rfl); (case hd => rfl); (case hx => rfl); (case hy => rfl))
            | fail)
          refine (alive21 _).mono ?_
          rintro e wz ⟨rfl, hbz⟩
          go_wp2_with fail
          go_ret
          exact ⟨rfl, HW14.out.trans (hbz.mono HW14.out.size)⟩
        · go_wp2_with (first
            | ((with_reducible refine wpList_alloc_new 25 Rcp.zero.cells zeroRcp (some 16) ?hgd ?ho ?hd ?_); (case hgd => rfl); (case ho => rfl); (case hd => rfl); (intro b16 w9 l9 B9 e9 z9))
            | ((with_reducible refine wpList_store_new 25 (.tmp 16) (.tmp 93) b16 Rcp.zero.cells X.cells 25 B9 rfl rsizeRcp (Rcp.cells_one _) ?hgd ?ho ?hx ?hy ?_); (case hgd => rfl); (case ho => rfl); (case hx => rfl); (case hy => rfl); (intro w10 B10 o10; have hb10 := o10.below (e9.mono l9) l9; have R10 := Lib.hid (R8.out.below hb10 R8.out.lt); have HW10 := Lib.hid (HW8.out.trans (hb10.mono HW8.out.size)); have G13 := Lib.hid (H13b.out.below hb10 H13b.out.lt); have G16 := Lib.hid B10; have s1 := HS1.out; have s2 := HS2.out))
            | ((with_reducible refine wpList_load_met 25 (.tmp 13) b13 0 X.cells _ (some 114) G13.out.range Tryz.underlying25 rfl rsizeRcp ?hg ?ho ?hds ?hx ?_); (case hg => rfl); (case ho => rfl); (case hds => rfl); (case hx => rfl))
            | ((with_reducible refine wpList_load_met 25 (.tmp 16) b16 0 X.cells _ (some 115) G16.out.range Tryz.underlying25 rfl rsizeRcp ?hg ?ho ?hds ?hx ?_); (case hg => rfl); (case ho => rfl); (case hds => rfl); (case hx => rfl))
            | ((with_reducible refine wpList_neq_agg 25 25 (.tmp 114) (.tmp 115) X.cells.toArray X.cells.toArray _ (some 116) guardRcp (eqRcpT X _) ?hgd ?ho ?hd ?hx ?hy ?_); (case hgd => rfl); (case ho => rfl); (case hd => rfl); (case hx => rfl); (case hy => rfl))
            | ((with_reducible refine wpList_load_met 25 (.tmp 13) b13 0 X.cells _ (some 139) G13.out.range Tryz.underlying25 rfl rsizeRcp ?hg ?ho ?hds ?hx ?_); (case hg => rfl); (case ho => rfl); (case hds => rfl); (case hx => rfl))
            | fail)
          clear s1 s2
          have hps2 : (p ++ s).size ≤ 1073741824 := by
            have : (p ++ s).size = p.size + s.size := by simp
            omega
          have tps : Txt (p ++ s) (rcpPut x ++ s.data.toList) := tp.append (Txt.self s)
          have hT : rcpTake (p ++ s).data.toList = some (x, s.data.toList) := by rw [show (p ++ s).data.toList = _ from tps]; exact rcpTake_put ok _
          have HTT := Lib.hid hT
          have HPS := Lib.hid hps2
          clear hT hps2 tps
          refine (rcptake_walk (p ++ s) _ HPS.out).mono ?_
          rintro e w12 ⟨he12, hb12⟩
          have R12 := Lib.hid (R10.out.below hb12 R10.out.lt)
          have HW12 := Lib.hid (HW10.out.trans (hb12.mono HW10.out.size))
          obtain ⟨y2, rfl, ty2⟩ : ∃ y2, e = .returned (.tuple #[x.v, .string y2, .int .i64 0]) ∧ Txt y2 s.data.toList := by
            rcases he12 with ⟨X', left, y', h1, h2, h3⟩ | ⟨h1, h2⟩
            · rw [HTT.out] at h1
              injection h1 with h1
              injection h1 with h5 h6
              subst h5 h6
              exact ⟨y', h2, h3⟩
            · rw [HTT.out] at h1; cases h1
          have s5 : (y2.toList == s.toList) = true := ty2.same (Txt.self s) rfl
          clear he12 hb12 ty2
          go_wp2_with (first
            | ((with_reducible refine wpList_alloc_new 25 Rcp.zero.cells zeroRcp (some 21) ?hgd ?ho ?hd ?_); (case hgd => rfl); (case ho => rfl); (case hd => rfl); (intro b21 w13 l13 B13 e13 z13))
            | ((with_reducible refine wpList_store_new 25 (.tmp 21) (.tmp 160) b21 Rcp.zero.cells x.cells 25 B13 rfl rsizeRcp (Rcp.cells_one _) ?hgd ?ho ?hx ?hy ?_); (case hgd => rfl); (case ho => rfl); (case hx => rfl); (case hy => rfl); (intro w14 B14 o14; have hb14 := o14.below (e13.mono l13) l13; have R14 := Lib.hid (R12.out.below hb14 R12.out.lt); have HW14 := Lib.hid (HW12.out.trans (hb14.mono HW12.out.size)); have G21 := Lib.hid B14))
            | ((with_reducible refine wpList_load_met 25 (.tmp 21) b21 0 x.cells _ (some 163) G21.out.range Tryz.underlying25 rfl rsizeRcp ?hg ?ho ?hds ?hx ?_); (case hg => rfl); (case ho => rfl); (case hds => rfl); (case hx => rfl))
            | ((with_reducible refine wpList_load_met 25 (.tmp 6) b 0 x.cells _ (some 164) R14.out.range Tryz.underlying25 rfl rsizeRcp ?hg ?ho ?hds ?hx ?_); (case hg => rfl); (case ho => rfl); (case hds => rfl); (case hx => rfl))
            | ((with_reducible refine wpList_eq_agg 25 25 (.tmp 163) (.tmp 164) x.cells.toArray x.cells.toArray _ (some 165) guardRcp (eqRcpT x _) ?hgd ?ho ?hd ?hx ?hy ?_); (case hgd => rfl); (case ho => rfl); (case hd => rfl); (case hx => rfl); (case hy => rfl))
            | fail)
          refine (alive21 _).mono ?_
          rintro e wz ⟨rfl, hbz⟩
          go_wp2_with fail
          go_ret
          exact ⟨rfl, HW14.out.trans (hbz.mono HW14.out.size)⟩
      · rw [ok]
        rcases HY.out.2 with ⟨rfl, rfl⟩ | ⟨rfl, rfl⟩
        · go_wp2_with (first
            | ((with_reducible refine wpList_alloc_new 25 Rcp.zero.cells zeroRcp (some 16) ?hgd ?ho ?hd ?_); (case hgd => rfl); (case ho => rfl); (case hd => rfl); (intro b16 w9 l9 B9 e9 z9))
            | ((with_reducible refine wpList_store_new 25 (.tmp 16) (.tmp 93) b16 Rcp.zero.cells X.cells 25 B9 rfl rsizeRcp (Rcp.cells_one _) ?hgd ?ho ?hx ?hy ?_); (case hgd => rfl); (case ho => rfl); (case hx => rfl); (case hy => rfl); (intro w10 B10 o10; have hb10 := o10.below (e9.mono l9) l9; have R10 := Lib.hid (R8.out.below hb10 R8.out.lt); have HW10 := Lib.hid (HW8.out.trans (hb10.mono HW8.out.size)); have G13 := Lib.hid (H13b.out.below hb10 H13b.out.lt); have G16 := Lib.hid B10; have s1 := HS1.out; have s2 := HS2.out))
            | ((with_reducible refine wpList_load_met 25 (.tmp 13) b13 0 X.cells _ (some 114) G13.out.range Tryz.underlying25 rfl rsizeRcp ?hg ?ho ?hds ?hx ?_); (case hg => rfl); (case ho => rfl); (case hds => rfl); (case hx => rfl))
            | ((with_reducible refine wpList_load_met 25 (.tmp 16) b16 0 X.cells _ (some 115) G16.out.range Tryz.underlying25 rfl rsizeRcp ?hg ?ho ?hds ?hx ?_); (case hg => rfl); (case ho => rfl); (case hds => rfl); (case hx => rfl))
            | ((with_reducible refine wpList_neq_agg 25 25 (.tmp 114) (.tmp 115) X.cells.toArray X.cells.toArray _ (some 116) guardRcp (eqRcpT X _) ?hgd ?ho ?hd ?hx ?hy ?_); (case hgd => rfl); (case ho => rfl); (case hd => rfl); (case hx => rfl); (case hy => rfl))
            | ((with_reducible refine wpList_load_met 25 (.tmp 13) b13 0 X.cells _ (some 139) G13.out.range Tryz.underlying25 rfl rsizeRcp ?hg ?ho ?hds ?hx ?_); (case hg => rfl); (case ho => rfl); (case hds => rfl); (case hx => rfl))
            | fail)
          have hback : s.data.toList = rcpPut X ++ y.data.toList ∧ rcpOk X = true := by
            rcases HXG.out with ⟨_, h5⟩ | ⟨h4, _⟩
            · exact rcpTake_back h5
            · cases h4
          have HBK := Lib.hid hback; clear hback
          have hXr := recOk_facts (rcpOk_rec HBK.out.2).1
          have hXq := HBK.out.2
          simp only [rcpOk, Bool.and_eq_true, decide_eq_true_eq] at hXq
          have hX1 : X.r.root.size ≤ 1048576 := by omega
          have hX2 : X.r.name.size ≤ 1048576 := by omega
          have hX3 : Fits X.r.epoch := by unfold Fits; omega
          have hX4 : Fits X.seq := by unfold Fits; omega
          have HXS := Lib.hid (And.intro hX1 (And.intro hX2 (And.intro hX3 hX4)))
          have hys : y.size ≤ 10000 := by
            have h1 := congrArg List.length HBK.out.1
            rw [List.length_append] at h1
            have e1 : s.data.toList.length = s.size := rfl
            have e2 : y.data.toList.length = y.size := rfl
            omega
          have hpl : (rcpPut X).length ≤ 10000 := by
            have h1 := congrArg List.length HBK.out.1
            rw [List.length_append] at h1
            have e1 : s.data.toList.length = s.size := rfl
            omega
          have HPL := Lib.hid hpl
          clear hXr hXq hX1 hX2 hX3 hX4 s1 s2 hpl
          refine (rcpput_walk X _ HXS.out.1 HXS.out.2.1 HXS.out.2.2.1 HXS.out.2.2.2).mono ?_
          rintro e w11 ⟨he11, hb11⟩
          obtain ⟨q, rfl, tq⟩ := he11.yes HBK.out.2
          have hqs : q.size ≤ 10000 := by rw [tq.size]; exact HPL.out
          have R11 := Lib.hid (R10.out.below hb11 R10.out.lt)
          have HW11 := Lib.hid (HW10.out.trans (hb11.mono HW10.out.size))
          have s3 : ((q ++ y).toList == s.toList) = true := (tq.append (Txt.self y)).same (Txt.self s) HBK.out.1.symm
          clear he11 hb11 tq R10 HW10
          go_wp2_with fail
          clear s3
          refine (alive21 _).mono ?_
          rintro e wz ⟨rfl, hbz⟩
          go_wp2_with fail
          go_ret
          exact ⟨rfl, HW11.out.trans (hbz.mono HW11.out.size)⟩
        · go_wp2_with (first
            | ((with_reducible refine wpList_alloc_new 25 Rcp.zero.cells zeroRcp (some 16) ?hgd ?ho ?hd ?_); (case hgd => rfl); (case ho => rfl); (case hd => rfl); (intro b16 w9 l9 B9 e9 z9))
            | ((with_reducible refine wpList_store_new 25 (.tmp 16) (.tmp 93) b16 Rcp.zero.cells X.cells 25 B9 rfl rsizeRcp (Rcp.cells_one _) ?hgd ?ho ?hx ?hy ?_); (case hgd => rfl); (case ho => rfl); (case hx => rfl); (case hy => rfl); (intro w10 B10 o10; have hb10 := o10.below (e9.mono l9) l9; have R10 := Lib.hid (R8.out.below hb10 R8.out.lt); have HW10 := Lib.hid (HW8.out.trans (hb10.mono HW8.out.size)); have G13 := Lib.hid (H13b.out.below hb10 H13b.out.lt); have G16 := Lib.hid B10; have s1 := HS1.out; have s2 := HS2.out))
            | ((with_reducible refine wpList_load_met 25 (.tmp 13) b13 0 X.cells _ (some 114) G13.out.range Tryz.underlying25 rfl rsizeRcp ?hg ?ho ?hds ?hx ?_); (case hg => rfl); (case ho => rfl); (case hds => rfl); (case hx => rfl))
            | ((with_reducible refine wpList_load_met 25 (.tmp 16) b16 0 X.cells _ (some 115) G16.out.range Tryz.underlying25 rfl rsizeRcp ?hg ?ho ?hds ?hx ?_); (case hg => rfl); (case ho => rfl); (case hds => rfl); (case hx => rfl))
            | ((with_reducible refine wpList_neq_agg 25 25 (.tmp 114) (.tmp 115) X.cells.toArray X.cells.toArray _ (some 116) guardRcp (eqRcpT X _) ?hgd ?ho ?hd ?hx ?hy ?_); (case hgd => rfl); (case ho => rfl); (case hd => rfl); (case hx => rfl); (case hy => rfl))
            | ((with_reducible refine wpList_load_met 25 (.tmp 13) b13 0 X.cells _ (some 139) G13.out.range Tryz.underlying25 rfl rsizeRcp ?hg ?ho ?hds ?hx ?_); (case hg => rfl); (case ho => rfl); (case hds => rfl); (case hx => rfl))
            | fail)
          refine (alive21 _).mono ?_
          rintro e wz ⟨rfl, hbz⟩
          go_wp2_with fail
          go_ret
          exact ⟨rfl, HW10.out.trans (hbz.mono HW10.out.size)⟩
theorem receiptChecks_law (root : ByteArray) (first : Int) (x : Rcp) (s : ByteArray) (w : World) (hf1 : Fits first) (hx : RcpFits x) :
    Calls Tryz.prog 3 #[.string root, .int .i64 first, x.v, .string s] w fun e w' => e = .returned (.bool true) ∧ Below w.heap.size w w' := by
  by_cases h : RChkIn root first x s
  · exact rchecks_walk root first x s w hx hf1 h
  · exact rchecks_few root first x s w hx hf1 h
end Go.Proofs.YtmiikdkdccheeaaGreat
