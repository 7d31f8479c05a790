/- Walk of WireTakes: for every message, place, byte and number of bytes the law returns true. No condition. -/
import Derived.Test.YtkdplgcffdaoaaaWWireApart
import Derived.Test.YtkdplgcffdaoaaaWWireBack
import Derived.Test.YtkdplgcffdaoaaaWireTk
import Derived.Test.YtkdplgcffdaoaaaWireD6
import Derived.Test.YtkdplgcffdaoaaaG14
namespace Go.Proofs.Ytkdplgcffdaoaaa
set_option linter.unusedSimpArgs false
set_option linter.unusedVariables false
open Go Go.RowKit
set_option linter.unusedVariables false

/-- A byte that came in. -/
def ByteIn (x : Int) : Prop := 0 ≤ x ∧ x ≤ 255
theorem byte_of_wf {x : Int} (h : (Lit.int .u8 x).wf = true) : ByteIn x := by
  simp only [Lit.wf, Bool.and_eq_true, decide_eq_true_eq] at h
  exact ⟨h.1, h.2⟩
section
variable {P : Program} {ops : Array Oper} {rest : List Oper} {o : Oper} {a : Act} {w : World} {Q : Exit → Act → World → Prop}
/-- 'string(b)', b a row of bytes, behind a guard that is met. -/
theorem wpList_string_met (src dst e : TypeId) (x : Operand) (l : List UInt8) (b off len cap : Nat) (d : Option Tmp) (v : Value)
    (hs : P.underlying src = some (.slice e)) (he : P.underlying e = some (.int .u8)) (hd : P.underlying dst = some .string)
    (hr : w.rangeAt b off (bytesV l)) (hl : len = l.length) (hv : str l = v)
    (hg : Region.wanted o (yielded ops a.tmps) = true) (ho : o.op = .convert src dst x) (hdst : o.dst = d) (hx : a.eval x = .slice (some ⟨b, off, none⟩) len cap)
    (h : wpList P ops Q rest (a.put d v) w) : wpList P ops Q (o :: rest) a w := by
  subst hdst hv
  refine wpList_met hg fun K hK => ?_
  unfold Oper.wp execOp
  simp only [ho, hx, Sem.run_bind]
  rw [run_convert_bytes_string w src dst e _ _ _ hs he hd, run_bytes_string w _ l len cap hl (fun j v hv => by rw [Addr.add_mid]; exact hr j v hv)]
  exact hK _ _ h
end
/-- What is in the block of bytes behind a turned byte, and behind a cut. -/
def BytesAt (w : World) (v : Value) (D : List UInt8) (g n cap : Nat) (z : List Value) : Prop :=
  v = .slice (some ⟨g, 0, none⟩) n cap ∧ Row w g (bytesV D ++ z) 5 ∧ n = D.length ∧ D.length ≤ 30000
set_option maxRecDepth 100000 in
set_option maxHeartbeats 16000000 in
theorem wireTakes_walk (m : MsgD) (u l : Value) (at_ to_ cut : Int) (w : World) (fm : MsgFits w m u l) (ft : ByteIn to_) :
    Calls Try.prog 5 #[m.v u l, .int .i64 at_, .int .u8 to_, .int .i64 cut] w fun e w' => e = .returned (.bool true) ∧ Below w.heap.size w w' := by
  have HF := Lib.hid fm; clear fm
  obtain ⟨tb, htb⟩ : ∃ tb : UInt8, to_ = ((tb.toNat : Nat) : Int) := by
    obtain ⟨t0, t1⟩ := ft
    refine ⟨UInt8.ofNat to_.toNat, ?_⟩
    rw [UInt8.toNat_ofNat_of_lt' (by show to_.toNat < 256; omega)]; omega
  subst htb
  clear ft
  go_enter Try.func5, Try.ntmps5
  go_wp2_with (first
    | ((with_reducible refine wpList_box_new 39 (.tmp 0) (m.cells u l) (some 4) ?hgd ?ho ?hd ?hx ?_); (case hgd => rfl); (case ho => rfl); (case hd => rfl); (case hx => rfl); (intro b0 w0 l0 B0 e0 z0))
    | ((with_reducible refine wpList_load_met 39 (.tmp 4) b0 0 (m.cells u l) _ (some 17) (B0).range Try.underlying39 rfl sizeMsg ?hg ?ho ?hds ?hx ?_); (case ho => rfl); (case hg => rfl); (case hds => rfl); (case hx => rfl))
    | fail)
  have HB0 := Lib.hid (show Below w.heap.size w w0 from e0.mono l0)
  have HX0 := Lib.hid B0
  clear e0 l0 z0 B0
  refine (rput27_walk m u l _ (HF.out.below HB0.out).up (HF.out.below HB0.out).left HF.out.upl HF.out.leftl).mono ?_
  rintro e w1 ⟨he, hb1⟩
  have HX1 := Lib.hid (HX0.out.below hb1 HX0.out.lt)
  have HB1 := Lib.hid (HB0.out.trans (hb1.mono HB0.out.size))
  clear hb1
  cases hok : msgOk m with
  | false =>
    have h2 := he.no (by rw [hok]; decide)
    subst h2
    clear he hok
    go_wp2_with (first
      | ((with_reducible refine wpList_load_met 39 (.tmp 4) b0 0 (m.cells u l) _ (some 21) (HX1.out).range Try.underlying39 rfl sizeMsg ?hg ?ho ?hds ?hx ?_); (case ho => rfl); (case hg => rfl); (case hds => rfl); (case hx => rfl))
      | fail)
    refine (few27_walk m u l _ (HF.out.below HB1.out)).mono ?_
    rintro e w2 ⟨hq, hb2⟩
    obtain ⟨q, rfl, hq⟩ := hq
    have HX2 := Lib.hid (HX1.out.below hb2 HX1.out.lt)
    have HB2 := Lib.hid (HB1.out.trans (hb2.mono HB1.out.size))
    clear hb2
    clear hq
    cases q with
    | false =>
      go_wp2_with fail
      refine (alive27 _).mono ?_
      rintro e wz ⟨rfl, hbz⟩
      go_wp2_with fail
      go_ret
      exact ⟨rfl, HB2.out.trans (hbz.mono HB2.out.size)⟩
    | true =>
      go_wp2_with fail
      refine (alive27 _).mono ?_
      rintro e wz ⟨rfl, hbz⟩
      go_wp2_with fail
      go_ret
      exact ⟨rfl, HB2.out.trans (hbz.mono HB2.out.size)⟩
  | true =>
    obtain ⟨s, rfl, ts⟩ := he.yes hok
    have HOK := Lib.hid hok
    have TS := Lib.hid ts
    have hts : s.size ≤ 30000 := by
      rw [ts.size]
      have h1 := msgSaid_len hok
      have h2 : m.tag.data.toList.length ≤ 32 := (msgOk_facts hok).tag
      unfold msgPut
      rw [List.length_append]; omega
    clear he hok ts
    go_wp2_with (first
      | ((with_reducible refine wpList_load_met 39 (.tmp 4) b0 0 (m.cells u l) _ (some 21) (HX1.out).range Try.underlying39 rfl sizeMsg ?hg ?ho ?hds ?hx ?_); (case ho => rfl); (case hg => rfl); (case hds => rfl); (case hx => rfl))
      | fail)
    refine (few27_walk m u l _ (HF.out.below HB1.out)).mono ?_
    rintro e w2 ⟨hq, hb2⟩
    obtain ⟨q, rfl, hq⟩ := hq
    have HX2 := Lib.hid (HX1.out.below hb2 HX1.out.lt)
    have HB2 := Lib.hid (HB1.out.trans (hb2.mono HB1.out.size))
    clear hb2
    clear hq
    cases q with
    | false =>
      go_wp2_with fail
      refine (alive27 _).mono ?_
      rintro e wz ⟨rfl, hbz⟩
      go_wp2_with fail
      go_ret
      exact ⟨rfl, HB2.out.trans (hbz.mono HB2.out.size)⟩
    | true =>
    obtain ⟨L, hL⟩ : ∃ L, L = s.data.toList := ⟨_, rfl⟩
    have HL := Lib.hid hL
    have hLs : L.length = s.size := by rw [hL]; rfl
    have HLS := Lib.hid hLs
    clear hL hLs
    go_upto_region 5 with (first
      | ((with_reducible refine wpList_bytes_of 9 52 5 (.tmp 29) s (some 30) Try.underlying9 Try.underlying52 Try.underlying5 ?hgd ?ho ?hd ?hx ?_); (case hgd => rfl); (case ho => rfl); (case hd => rfl); (case hx => rfl); (intro g cap z w3 l3 R3 e3 z3 hcap))
      | fail)
    rw [← HL.out] at R3
    have HB3 := Lib.hid (HB2.out.trans (e3.mono (Nat.le_trans HB2.out.size l3)))
    have HR3 := Lib.hid R3
    have fg : w.heap.size ≤ g := Nat.le_trans HB2.out.size l3
    clear R3 e3 z3
    obtain ⟨q1, hq1⟩ : ∃ q, decide (0 ≤ at_ ∧ at_ < (s.size : Int)) = q := ⟨_, rfl⟩
    have HQ1 := Lib.hid hq1
    clear hq1
    go_cut [38] from 31 to 38 (fun v wc => v = .bool q1 ∧ wc = w3)
    case first =>
      by_cases a0 : 0 ≤ at_
      · by_cases a1 : at_ < (s.size : Int)
        · have hq := HQ1.out
          rw [decide_eq_true ⟨a0, a1⟩] at hq
          subst hq
          clear HQ1
          go_wp2_with fail
          go_meet
          exact ⟨rfl, rfl⟩
        · have hq := HQ1.out
          rw [decide_eq_false (fun h => a1 h.2)] at hq
          subst hq
          clear HQ1
          go_wp2_with fail
          go_meet
          exact ⟨rfl, rfl⟩
      · have hq := HQ1.out
        rw [decide_eq_false (fun h => a0 h.1)] at hq
        subst hq
        clear HQ1
        go_wp2_with fail
        go_meet
        exact ⟨rfl, rfl⟩
    case rest =>
    obtain ⟨rfl, hwc⟩ := hcut
    subst hwc
    go_upto_if 38 with fail
    go_cut [] from 39 to 42 (fun wd => ∃ D : List UInt8, D.length = s.size ∧ Row wd g (bytesV D ++ z) 5 ∧ Below w.heap.size w wd)
    case first =>
      cases q1 with
      | true =>
        obtain ⟨a0, a1⟩ := of_decide_eq_true HQ1.out
        obtain ⟨k, rfl⟩ : ∃ k : Nat, at_ = (k : Int) := ⟨at_.toNat, by omega⟩
        have hkl : k < L.length := by rw [HLS.out]; omega
        have hck : wc.cell? ⟨g, k, none⟩ = some (.int .u8 ((L[k].toNat : Nat) : Int)) := HR3.out.cell (by rw [List.getElem?_append_left (by rw [bytesV_length]; exact hkl)]; exact bytesV_at L k hkl)
        have hfz : wc.frozen? ⟨g, k, none⟩ = false := HR3.out.free (by rw [List.length_append, bytesV_length]; omega)
        go_wp2_with fail
        go_meet
        refine ⟨L.set k tb, by rw [List.length_set]; exact HLS.out, (HR3.out.set k (.int .u8 ((tb.toNat : Nat) : Int))).ext ?_, HB3.out.setCell (by show w.heap.size ≤ g; exact fg) _⟩
        rw [List.set_append_left _ _ (by rw [bytesV_length]; exact hkl), bytesV_set]
      | false =>
        go_wp2_with fail
        go_meet
        exact ⟨L, HLS.out, HR3.out, HB3.out⟩
    case rest =>
    obtain ⟨E, hE, hRE, hBE⟩ := hcut
    have HE0 := Lib.hid hE
    have HRE := Lib.hid hRE
    have HBE := Lib.hid hBE
    clear hE hRE hBE HB3 HR3
    go_upto_region 7 with fail
    obtain ⟨q2, hq2⟩ : ∃ q, decide (0 < cut ∧ cut ≤ (s.size : Int)) = q := ⟨_, rfl⟩
    have HQ2 := Lib.hid hq2
    clear hq2
    obtain ⟨w4, hw4⟩ : ∃ w4, w4 = wc := ⟨_, rfl⟩
    rw [← hw4] at HRE HBE ⊢
    clear hw4
    go_cut [50] from 43 to 50 (fun v wc => v = .bool q2 ∧ wc = w4)
    case first =>
      by_cases c0 : 0 < cut
      · by_cases c1 : cut ≤ (s.size : Int)
        · have hq := HQ2.out
          rw [decide_eq_true ⟨c0, c1⟩] at hq
          subst hq
          clear HQ2
          go_wp2_with fail
          go_meet
          exact ⟨rfl, rfl⟩
        · have hq := HQ2.out
          rw [decide_eq_false (fun h => c1 h.2)] at hq
          subst hq
          clear HQ2
          go_wp2_with fail
          go_meet
          exact ⟨rfl, rfl⟩
      · have hq := HQ2.out
        rw [decide_eq_false (fun h => c0 h.1)] at hq
        subst hq
        clear HQ2
        go_wp2_with fail
        go_meet
        exact ⟨rfl, rfl⟩
    case rest =>
    obtain ⟨rfl, hwc⟩ := hcut
    subst hwc
    go_upto_if 50 with fail
    go_cut [11] from 51 to 56 (fun v wd => ∃ D n cap z, BytesAt wd v D g n cap z ∧ Below w.heap.size w wd)
    case first =>
      cases q2 with
      | true =>
        obtain ⟨c0, c1⟩ := of_decide_eq_true HQ2.out
        obtain ⟨c, rfl⟩ : ∃ c : Nat, cut = (c : Int) := ⟨cut.toNat, by omega⟩
        obtain ⟨n, hn⟩ : ∃ n, n = s.size - c := ⟨_, rfl⟩
        have e55 : IntKind.i64.wrap ((s.size : Int) - c) = n := by rw [IntWalk.i64_in _ (by omega)]; omega
        have n0 : (0 : Int) ≤ n := by omega
        have n1 : (n : Int) ≤ cap := by omega
        have HNN := Lib.hid hn
        clear hn
        go_wp2_with fail
        go_meet
        refine ⟨E.take n, n, cap, bytesV (E.drop n) ++ z, ⟨rfl, HRE.out.ext ?_, ?_, ?_⟩, HBE.out⟩
        · rw [← List.append_assoc, ← bytesV_append, List.take_append_drop]
        · rw [List.length_take, HE0.out, HNN.out]; omega
        · rw [List.length_take, HE0.out]; omega
      | false =>
        go_wp2_with fail
        go_meet
        exact ⟨E, _, _, z, ⟨rfl, HRE.out, HE0.out.symm, by rw [HE0.out]; exact hts⟩, HBE.out⟩
    case rest =>
    obtain ⟨D, n, cp, z', ⟨rfl, hg, hn, hdl⟩, hb4⟩ := hcut
    have HG := Lib.hid hg
    have HN := Lib.hid hn
    have HDL := Lib.hid hdl
    have HB4 := Lib.hid hb4
    clear hg hn hdl hb4 HE0 HRE HBE
    obtain ⟨dB, hdB, hsd⟩ : ∃ dB : ByteArray, dB.data.toList = D ∧ str D = .string dB := ⟨⟨D.toArray⟩, rfl, rfl⟩
    have HDB := Lib.hid hdB
    have HSD := Lib.hid hsd
    clear hdB hsd
    go_wp2_with (first
      | ((with_reducible refine wpList_string_met 52 9 5 (.tmp 58) D g 0 n cp (some 59) (.string dB) Try.underlying52 Try.underlying5 Try.underlying9 HG.out.range HN.out HSD.out ?hgd ?ho ?hd ?hx ?_); (case ho => rfl); (case hgd => rfl); (case hd => rfl); (case hx => rfl))
      | fail)
    refine (take27_walk dB _ (by rw [Txt.size HDB.out]; have := HDL.out; omega)).mono ?_
    rintro e v1 ⟨ht, hb1⟩
    rw [show dB.data.toList = D from HDB.out] at ht
    have HG1 := Lib.hid (HG.out.below hb1 HG.out.lt)
    have HC := Lib.hid (HB4.out.trans (hb1.mono HB4.out.size))
    clear hb1
    rcases ht with ⟨x, ux, lx, htk, rfl, hux, hlx⟩ | ⟨hno, rfl⟩
    · have HTK := Lib.hid htk
      have onex : ∀ v ∈ x.cells ux lx, v.oneCell' = true := mcells_one hux.shape hlx.shape
      have HX := Lib.hid (And.intro hux hlx)
      clear htk hux hlx
      go_upto_region 12 with (first
        | ((with_reducible refine wpList_alloc_new 39 mzero zeroMsgB (some 12) ?hgd ?ho ?hd ?_); (case hgd => rfl); (case ho => rfl); (case hd => rfl); (intro b7 w7 l7 B7 e7 z7))
        | ((with_reducible refine wpList_store_new 39 (.tmp 12) (.tmp 61) b7 mzero (x.cells ux lx) 39 B7 rfl sizeMsg onex ?hgd ?ho ?hx ?hy ?_); (case hgd => rfl); (case ho => rfl); (case hx => rfl); (case hy => rfl); (intro w8 B8 o8))
        | fail)
      have hb18 : Below v1.heap.size v1 w8 := o8.below (e7.mono l7) l7
      have HE := Lib.hid (HC.out.trans (hb18.mono HC.out.size))
      have HX8 := Lib.hid (show PRow w8 ux x.told.up ∧ PRow w8 lx x.told.left from ⟨HX.out.1.below hb18 (Nat.le_refl _), HX.out.2.below hb18 (Nat.le_refl _)⟩)
      have HG8 := Lib.hid (HG1.out.below hb18 HG1.out.lt)
      have HTM := Lib.hid (readF_tame HTK.out.1)
      have HLX := Lib.hid (show Long x.told.up.length ∧ Long x.told.left.length from ⟨.of HTM.out.up (by omega), .of HTM.out.left (by omega)⟩)
      clear hb18 o8 e7 l7 z7 B7 HX HC
      go_wp2_with (first
        | ((with_reducible refine wpList_load_met 39 (.tmp 12) b7 0 (x.cells ux lx) _ (some 82) (B8).range Try.underlying39 rfl sizeMsg ?hg ?ho ?hds ?hx ?_); (case ho => rfl); (case hg => rfl); (case hds => rfl); (case hx => rfl))
        | fail)
      refine (rput27_walk x ux lx _ HX8.out.1 HX8.out.2 HLX.out.1 HLX.out.2).mono ?_
      rintro e v2 ⟨hp, hb2⟩
      obtain ⟨r, rfl, tr⟩ := hp.yes HTK.out.2.1
      have hrd : dB = r := Txt.eq (show Txt dB D from HDB.out) (HTK.out.2.2 ▸ tr)
      subst hrd
      have HG9 := Lib.hid (HG8.out.below hb2 HG8.out.lt)
      have HF9 := Lib.hid (HE.out.trans (hb2.mono HE.out.size))
      clear hp tr hb2 B8
      have eqs : (dB.toList == dB.toList) = true := by simp
      go_wp2_with (first
        | ((with_reducible refine wpList_string_met 52 9 5 (.tmp 89) D g 0 n cp (some 90) (.string dB) Try.underlying52 Try.underlying5 Try.underlying9 HG9.out.range HN.out HSD.out ?hgd ?ho ?hd ?hx ?_); (case ho => rfl); (case hgd => rfl); (case hd => rfl); (case hx => rfl))
        | fail)
      refine (alive27 _).mono ?_
      rintro e wz ⟨rfl, hbz⟩
      go_wp2_with fail
      go_ret
      exact ⟨rfl, HF9.out.trans (hbz.mono HF9.out.size)⟩
    · have HNE := Lib.hid (show D ≠ s.data.toList from fun h => hno m (by rw [h, show s.data.toList = msgPut m from TS.out]; exact .of HOK.out))
      clear hno
      go_upto_region 11 with (first
        | ((with_reducible refine wpList_alloc_new 39 mzero zeroMsgB (some 12) ?hgd ?ho ?hd ?_); (case hgd => rfl); (case ho => rfl); (case hd => rfl); (intro b7 w7 l7 B7 e7 z7))
        | ((with_reducible refine wpList_store_new 39 (.tmp 12) (.tmp 61) b7 mzero (MsgD.zero.cells (.slice none 0 0) (.slice none 0 0)) 39 B7 rfl sizeMsg (mcells_one nil_shape nil_shape) ?hgd ?ho ?hx ?hy ?_); (case hgd => rfl); (case ho => rfl); (case hx => rfl); (case hy => rfl); (intro w8 B8 o8))
        | fail)
      have hb18 : Below v1.heap.size v1 w8 := o8.below (e7.mono l7) l7
      have HE := Lib.hid (HC.out.trans (hb18.mono HC.out.size))
      have HG8 := Lib.hid (HG1.out.below hb18 HG1.out.lt)
      clear hb18 o8 e7 l7 z7 B7 HC
      have HZZ := Lib.hid (show decide (MsgD.zero = MsgD.zero) = true by simp)
      have eqs : (dB.toList == s.toList) = false := Txt.other HDB.out (Txt.self _) HNE.out
      go_wp2_with (first
        | ((with_reducible refine wpList_load_met 39 (.tmp 12) b7 0 (MsgD.zero.cells (.slice none 0 0) (.slice none 0 0)) _ (some 65) (B8).range Try.underlying39 rfl sizeMsg ?hg ?ho ?hds ?hx ?_); (case ho => rfl); (case hg => rfl); (case hds => rfl); (case hx => rfl))
        | ((with_reducible refine wpList_build_eq 39 ?parts mzero ?hg ?ho ?hf ?_); (case hg => rfl); (case ho => rfl); (case hf => kernel_rfl))
        | (go_at_call 10; refine (same27_walk MsgD.zero MsgD.zero (.slice none 0 0) (.slice none 0 0) (.slice none 0 0) (.slice none 0 0) _ (PathIn.nil _ _) (PathIn.nil _ _) (PathIn.nil _ _) (PathIn.nil _ _) ⟨by decide⟩ ⟨by decide⟩ ⟨by decide⟩ ⟨by decide⟩).mono ?_; rintro e v3 ⟨he, hb3⟩; rw [HZZ.out] at he; subst he; have HG9 := Lib.hid (HG8.out.below hb3 HG8.out.lt); have HF9 := Lib.hid (HE.out.trans (hb3.mono HE.out.size)))
        | ((with_reducible refine wpList_string_met 52 9 5 (.tmp 69) D g 0 n cp (some 70) (.string dB) Try.underlying52 Try.underlying5 Try.underlying9 HG9.out.range HN.out HSD.out ?hgd ?ho ?hd ?hx ?_); (case ho => rfl); (case hgd => rfl); (case hd => rfl); (case hx => rfl))
        | fail)
      refine (alive27 _).mono ?_
      rintro e wz ⟨rfl, hbz⟩
      go_wp2_with fail
      go_ret
      exact ⟨rfl, HF9.out.trans (hbz.mono HF9.out.size)⟩
end Go.Proofs.Ytkdplgcffdaoaaa
