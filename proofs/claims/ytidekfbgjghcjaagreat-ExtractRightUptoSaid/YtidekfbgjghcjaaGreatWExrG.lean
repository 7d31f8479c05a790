/- Walk of ExtractRight: the calls that the law's guards refuse. -/
import Derived.Test.YtidekfbgjghcjaaGreatG32
import Derived.Test.YtidekfbgjghcjaaGreatExr7
import Derived.Test.YtidekfbgjghcjaaGreatG34
namespace Go.Proofs.YtidekfbgjghcjaaGreat
set_option linter.unusedSimpArgs false
set_option linter.unusedVariables false
open Go Go.RowKit

theorem sizeHonR {a b c : Value} : (Tryz.prog.info? 56).map (·.size) = some [a, b, c].length := by kernel_rfl
set_option maxRecDepth 100000 in
set_option maxHeartbeats 1500000 in
theorem extractRight_long (key : ByteArray) (first : Int) (sv cv : Value) (p : Option Addr) (n c : Nat) (sl : List Sld) (cl : List ByteArray) (hl : List Hd) (below kind epoch : Int) (fa fb fm ft : ByteArray) (w : World) (hkd : decide ((1000:Int) < key.size) = true) :
    Calls Tryz.prog 4 #[.string key, .int .i64 first, .agg #[sv, cv, .slice p n c], .int .i64 below, (⟨kind, fa, fb, epoch, fm, ft⟩ : Fnd).v] w fun e w' => e = .returned (.bool true) ∧ Below w.heap.size w w' := by
  go_enter Tryz.func4, Tryz.ntmps4
  go_wp2_with (first
    | ((with_reducible refine wpList_box_new 56 (.tmp 2) ([sv, cv, .slice p n c]) (some 7) ?hgd ?ho ?hd ?hx ?_); (case hgd | ho | hd | hx => rfl); (intro b0 w0 l0 B0 e0 z0))
    | ((with_reducible refine wpList_box_new 58 (.tmp 4) ((⟨kind, fa, fb, epoch, fm, ft⟩ : Fnd).cells) (some 9) ?hgd ?ho ?hd ?hx ?_); (case hgd | ho | hd | hx => rfl); (intro b1 w1 l1 B1 e1 z1); have X1 := B0.below e1 (Nat.lt_of_lt_of_le B0.lt l1))
    | (rw [hkd]; ((with_reducible refine wpList_load_met 56 (.tmp 7) b0 0 ([sv, cv, .slice p n c]) _ (some 16) (X1).range Tryz.underlying56 rfl sizeHonR ?hg ?ho ?hds ?hx ?_); (case ho | hg | hds | hx => rfl)))
    | ((with_reducible refine wpList_load_met 56 (.tmp 7) b0 0 ([sv, cv, .slice p n c]) _ (some 16) (X1).range Tryz.underlying56 rfl sizeHonR ?hg ?ho ?hds ?hx ?_); (case ho | hg | hds | hx => rfl))
    | ((with_reducible refine wpList_build_eq 62 ?parts (seenZero) ?hg ?ho ?hf ?_); (case hg | ho => rfl); (case hf => exact builtSeen))
    | fail)
  have HX1 := Lib.hid X1
  have HY1 := Lib.hid B1
  have HB1 := Lib.hid (show Below w.heap.size w w1 from (e0.mono l0).trans (e1.mono (by have := B0.lt; omega)))
  clear X1 B1 B0 e0 e1 l0 l1 z0 z1
  refine (alive32 _).mono ?_
  rintro e wz ⟨rfl, hbz⟩
  go_wp2_with fail
  go_ret
  exact ⟨rfl, HB1.out.trans (hbz.mono HB1.out.size)⟩
set_option maxRecDepth 100000 in
set_option maxHeartbeats 1500000 in
theorem extractRight_few (key : ByteArray) (first : Int) (sv cv : Value) (p : Option Addr) (n c : Nat) (sl : List Sld) (cl : List ByteArray) (hl : List Hd) (below kind epoch : Int) (fa fb fm ft : ByteArray) (w : World) (hs : SldRow w sv sl) (hv1 : sv.oneCell' = true) (hv2 : cv.oneCell' = true) (hkd : decide ((1000:Int) < key.size) = false) (hf : fewS sl = false) :
    Calls Tryz.prog 4 #[.string key, .int .i64 first, .agg #[sv, cv, .slice p n c], .int .i64 below, (⟨kind, fa, fb, epoch, fm, ft⟩ : Fnd).v] w fun e w' => e = .returned (.bool true) ∧ Below w.heap.size w w' := by
  go_enter Tryz.func4, Tryz.ntmps4
  go_wp2_with (first
    | ((with_reducible refine wpList_box_new 56 (.tmp 2) ([sv, cv, .slice p n c]) (some 7) ?hgd ?ho ?hd ?hx ?_); (case hgd | ho | hd | hx => rfl); (intro b0 w0 l0 B0 e0 z0))
    | ((with_reducible refine wpList_box_new 58 (.tmp 4) ((⟨kind, fa, fb, epoch, fm, ft⟩ : Fnd).cells) (some 9) ?hgd ?ho ?hd ?hx ?_); (case hgd | ho | hd | hx => rfl); (intro b1 w1 l1 B1 e1 z1); have X1 := B0.below e1 (Nat.lt_of_lt_of_le B0.lt l1))
    | (rw [hkd]; ((with_reducible refine wpList_load_met 56 (.tmp 7) b0 0 ([sv, cv, .slice p n c]) _ (some 16) (X1).range Tryz.underlying56 rfl sizeHonR ?hg ?ho ?hds ?hx ?_); (case ho | hg | hds | hx => rfl)))
    | ((with_reducible refine wpList_load_met 56 (.tmp 7) b0 0 ([sv, cv, .slice p n c]) _ (some 16) (X1).range Tryz.underlying56 rfl sizeHonR ?hg ?ho ?hds ?hx ?_); (case ho | hg | hds | hx => rfl))
    | ((with_reducible refine wpList_build_eq 62 ?parts (seenZero) ?hg ?ho ?hf ?_); (case hg | ho => rfl); (case hf => exact builtSeen))
    | fail)
  have HX1 := Lib.hid X1
  have HY1 := Lib.hid B1
  have HB1 := Lib.hid (show Below w.heap.size w w1 from (e0.mono l0).trans (e1.mono (by have := B0.lt; omega)))
  clear X1 B1 B0 e0 e1 l0 l1 z0 z1
  refine (few32_no sv cv p n c sl _ (hs.below HB1.out (Nat.le_refl _)) hv1 hv2 hf).mono ?_
  rintro e w2 ⟨rfl, hb2⟩
  have HX2 := Lib.hid (HX1.out.below hb2 HX1.out.lt)
  have HY2 := Lib.hid (HY1.out.below hb2 HY1.out.lt)
  have HB2 := Lib.hid (HB1.out.trans (hb2.mono HB1.out.size))
  clear hb2
  go_wp2_with fail
  refine (alive32 _).mono ?_
  rintro e wz ⟨rfl, hbz⟩
  go_wp2_with fail
  go_ret
  exact ⟨rfl, HB2.out.trans (hbz.mono HB2.out.size)⟩
set_option maxRecDepth 100000 in
set_option maxHeartbeats 4000000 in
theorem extractRight_big (key : ByteArray) (first : Int) (sv cv : Value) (p : Option Addr) (n c : Nat) (sl : List Sld) (cl : List ByteArray) (hl : List Hd) (below kind epoch : Int) (fa fb fm ft : ByteArray) (w : World) (hs : SldRow w sv sl) (hv1 : sv.oneCell' = true) (hv2 : cv.oneCell' = true) (hcr : CellRow w cv cl) (hr : HdRow w (.slice p n c) hl) (hft : HdFits w hl) (hnl : Value.slice p n c = .slice none 0 0 ∨ ∃ ad m c', Value.slice p n c = .slice (some ad) m c') (hlen : hl.length ≤ 1048576) (hsl : sl.length ≤ 1048576) (htm : SldTame sl) (hsz : fa.size ≤ 1048576 ∧ fb.size ≤ 1048576 ∧ fm.size ≤ 1048576 ∧ ft.size ≤ 1048576) (hkd : decide ((1000:Int) < key.size) = false) (hf : fewS sl = true) (hbig : decide ((5000:Int) < (fa.size : Int) + fb.size + fm.size + ft.size) = true) :
    Calls Tryz.prog 4 #[.string key, .int .i64 first, .agg #[sv, cv, .slice p n c], .int .i64 below, (⟨kind, fa, fb, epoch, fm, ft⟩ : Fnd).v] w fun e w' => e = .returned (.bool true) ∧ Below w.heap.size w w' := by
  go_enter Tryz.func4, Tryz.ntmps4
  go_wp2_with (first
    | ((with_reducible refine wpList_box_new 56 (.tmp 2) ([sv, cv, .slice p n c]) (some 7) ?hgd ?ho ?hd ?hx ?_); (case hgd | ho | hd | hx => rfl); (intro b0 w0 l0 B0 e0 z0))
    | ((with_reducible refine wpList_box_new 58 (.tmp 4) ((⟨kind, fa, fb, epoch, fm, ft⟩ : Fnd).cells) (some 9) ?hgd ?ho ?hd ?hx ?_); (case hgd | ho | hd | hx => rfl); (intro b1 w1 l1 B1 e1 z1); have X1 := B0.below e1 (Nat.lt_of_lt_of_le B0.lt l1))
    | (rw [hkd]; ((with_reducible refine wpList_load_met 56 (.tmp 7) b0 0 ([sv, cv, .slice p n c]) _ (some 16) (X1).range Tryz.underlying56 rfl sizeHonR ?hg ?ho ?hds ?hx ?_); (case ho | hg | hds | hx => rfl)))
    | ((with_reducible refine wpList_load_met 56 (.tmp 7) b0 0 ([sv, cv, .slice p n c]) _ (some 16) (X1).range Tryz.underlying56 rfl sizeHonR ?hg ?ho ?hds ?hx ?_); (case ho | hg | hds | hx => rfl))
    | ((with_reducible refine wpList_build_eq 62 ?parts (seenZero) ?hg ?ho ?hf ?_); (case hg | ho => rfl); (case hf => exact builtSeen))
    | fail)
  have HX1 := Lib.hid X1
  have HY1 := Lib.hid B1
  have HB1 := Lib.hid (show Below w.heap.size w w1 from (e0.mono l0).trans (e1.mono (by have := B0.lt; omega)))
  clear X1 B1 B0 e0 e1 l0 l1 z0 z1
  refine (few32_yes sv cv p n c sl cl hl _ (hs.below HB1.out (Nat.le_refl _)) hv1 hv2 hf (hcr.below HB1.out) (hr.below HB1.out) (hft.below HB1.out) hnl hlen).mono ?_
  rintro e w2 ⟨⟨q, rfl, hq⟩, hb2⟩
  have HX2 := Lib.hid (HX1.out.below hb2 HX1.out.lt)
  have HY2 := Lib.hid (HY1.out.below hb2 HY1.out.lt)
  have HB2 := Lib.hid (HB1.out.trans (hb2.mono HB1.out.size))
  clear hb2
  cases q with
  | false =>
    go_wp2_with fail
    refine (alive32 _).mono ?_
    rintro e wz ⟨rfl, hbz⟩
    go_wp2_with fail
    go_ret
    exact ⟨rfl, HB2.out.trans (hbz.mono HB2.out.size)⟩
  | true =>
    obtain ⟨_, hfew⟩ := hq rfl
    clear hq
    obtain ⟨z1, z2, z3, z4⟩ := hsz
    have y0 := HY2.out.cell (i := 0) rfl
    have y1 := HY2.out.cell (i := 1) rfl
    have y2 := HY2.out.cell (i := 2) rfl
    have y3 := HY2.out.cell (i := 3) rfl
    have y4 := HY2.out.cell (i := 4) rfl
    have y5 := HY2.out.cell (i := 5) rfl
    go_wp2_with fail
    refine (alive32 _).mono ?_
    rintro e wz ⟨rfl, hbz⟩
    go_wp2_with fail
    go_ret
    exact ⟨rfl, HB2.out.trans (hbz.mono HB2.out.size)⟩
set_option maxRecDepth 100000 in
set_option maxHeartbeats 4000000 in
theorem extractRight_far (key : ByteArray) (first : Int) (sv cv : Value) (p : Option Addr) (n c : Nat) (sl : List Sld) (cl : List ByteArray) (hl : List Hd) (below kind epoch : Int) (fa fb fm ft : ByteArray) (w : World) (hs : SldRow w sv sl) (hv1 : sv.oneCell' = true) (hv2 : cv.oneCell' = true) (hcr : CellRow w cv cl) (hr : HdRow w (.slice p n c) hl) (hft : HdFits w hl) (hnl : Value.slice p n c = .slice none 0 0 ∨ ∃ ad m c', Value.slice p n c = .slice (some ad) m c') (hlen : hl.length ≤ 1048576) (hsl : sl.length ≤ 1048576) (htm : SldTame sl) (hsz : fa.size ≤ 1048576 ∧ fb.size ≤ 1048576 ∧ fm.size ≤ 1048576 ∧ ft.size ≤ 1048576) (hkd : decide ((1000:Int) < key.size) = false) (hf : fewS sl = true) (hbig : decide ((5000:Int) < (fa.size : Int) + fb.size + fm.size + ft.size) = false) (hfst : Fits first) (hfep : Fits epoch) (c1 : 0 ≤ first) (c2 : first ≤ epoch) (c3 : 40 < epoch - first) (c4 : epoch - first ≤ 4096) :
    Calls Tryz.prog 4 #[.string key, .int .i64 first, .agg #[sv, cv, .slice p n c], .int .i64 below, (⟨kind, fa, fb, epoch, fm, ft⟩ : Fnd).v] w fun e w' => e = .returned (.bool true) ∧ Below w.heap.size w w' := by
  go_enter Tryz.func4, Tryz.ntmps4
  go_wp2_with (first
    | ((with_reducible refine wpList_box_new 56 (.tmp 2) ([sv, cv, .slice p n c]) (some 7) ?hgd ?ho ?hd ?hx ?_); (case hgd | ho | hd | hx => rfl); (intro b0 w0 l0 B0 e0 z0))
    | ((with_reducible refine wpList_box_new 58 (.tmp 4) ((⟨kind, fa, fb, epoch, fm, ft⟩ : Fnd).cells) (some 9) ?hgd ?ho ?hd ?hx ?_); (case hgd | ho | hd | hx => rfl); (intro b1 w1 l1 B1 e1 z1); have X1 := B0.below e1 (Nat.lt_of_lt_of_le B0.lt l1))
    | (rw [hkd]; ((with_reducible refine wpList_load_met 56 (.tmp 7) b0 0 ([sv, cv, .slice p n c]) _ (some 16) (X1).range Tryz.underlying56 rfl sizeHonR ?hg ?ho ?hds ?hx ?_); (case ho | hg | hds | hx => rfl)))
    | ((with_reducible refine wpList_load_met 56 (.tmp 7) b0 0 ([sv, cv, .slice p n c]) _ (some 16) (X1).range Tryz.underlying56 rfl sizeHonR ?hg ?ho ?hds ?hx ?_); (case ho | hg | hds | hx => rfl))
    | ((with_reducible refine wpList_build_eq 62 ?parts (seenZero) ?hg ?ho ?hf ?_); (case hg | ho => rfl); (case hf => exact builtSeen))
    | fail)
  have HX1 := Lib.hid X1
  have HY1 := Lib.hid B1
  have HB1 := Lib.hid (show Below w.heap.size w w1 from (e0.mono l0).trans (e1.mono (by have := B0.lt; omega)))
  clear X1 B1 B0 e0 e1 l0 l1 z0 z1
  refine (few32_yes sv cv p n c sl cl hl _ (hs.below HB1.out (Nat.le_refl _)) hv1 hv2 hf (hcr.below HB1.out) (hr.below HB1.out) (hft.below HB1.out) hnl hlen).mono ?_
  rintro e w2 ⟨⟨q, rfl, hq⟩, hb2⟩
  have HX2 := Lib.hid (HX1.out.below hb2 HX1.out.lt)
  have HY2 := Lib.hid (HY1.out.below hb2 HY1.out.lt)
  have HB2 := Lib.hid (HB1.out.trans (hb2.mono HB1.out.size))
  clear hb2
  cases q with
  | false =>
    go_wp2_with fail
    refine (alive32 _).mono ?_
    rintro e wz ⟨rfl, hbz⟩
    go_wp2_with fail
    go_ret
    exact ⟨rfl, HB2.out.trans (hbz.mono HB2.out.size)⟩
  | true =>
    obtain ⟨_, hfew⟩ := hq rfl
    clear hq
    obtain ⟨z1, z2, z3, z4⟩ := hsz
    have y0 := HY2.out.cell (i := 0) rfl
    have y1 := HY2.out.cell (i := 1) rfl
    have y2 := HY2.out.cell (i := 2) rfl
    have y3 := HY2.out.cell (i := 3) rfl
    have y4 := HY2.out.cell (i := 4) rfl
    have y5 := HY2.out.cell (i := 5) rfl
    go_wp2_with fail
    refine (alive32 _).mono ?_
    rintro e wz ⟨rfl, hbz⟩
    go_wp2_with fail
    go_ret
    exact ⟨rfl, HB2.out.trans (hbz.mono HB2.out.size)⟩
end Go.Proofs.YtidekfbgjghcjaaGreat

