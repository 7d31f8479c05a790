/- Walk of ReceiptSound: for every root, first epoch, sealed records and receipt the law returns true. No condition. -/
import Derived.Test.YtmiikdkdccheeaaWReceiptRight
import Derived.Test.YtmiikdkdccheeaaRecInj
import Derived.Test.YtmiikdkdccheeaaG9
import Derived.Deep.RegionWith
namespace Go.Proofs.Ytmiikdkdccheeaa
set_option linter.unusedSimpArgs false
set_option linter.unusedVariables false
open Go Go.RowKit
set_option linter.unusedVariables false

theorem rchkS_ok {root : ByteArray} {first : Int} {x : Rcp} (h : rchkS root first x = 0) : root.size = 32 ∧ rcpOk x = true ∧ first ≤ x.r.epoch ∧ 0 ≤ first ∧ x.r.epoch - first ≤ 4096 ∧ tagC (atL root.data.toList first.toNat (x.r.epoch - first).toNat) x.was.data.toList x.seq x.r = x.tag.data.toList := by
  unfold rchkS at h
  split at h
  · omega
  · next h1 =>
    split at h
    · omega
    · split at h
      · omega
      · split at h
        · next h4 =>
          refine ⟨by by_cases hh : root.size = 32 <;> simp_all, by cases hh : rcpOk x <;> simp_all, by omega, by omega, by omega, h4⟩
        · omega
theorem sound_apart {root : ByteArray} {first : Int} {l : List Sld} {x : Rcp} (h : RightRow root first l) (hl : l.length ≤ 1048576) (hx : rchkS root first x = 0) (hof : ofS l x = false) {k : Nat} {y : Sld} (hy : l[k]? = some y) :
    saidC (lastB (l.take k)).data.toList k y.r ≠ saidC x.was.data.toList x.seq x.r := by
  intro he
  obtain ⟨g1, g2, g3, g4, g5, g6⟩ := rchkS_ok hx
  have hlen := (List.getElem?_eq_some_iff.1 hy).1
  obtain ⟨q1, q2, q3⟩ := h.ok.epochs k y.r (map_at hy)
  have hlast := h.last (k := k) (by omega)
  have e1 : (lastB (l.take k)).data.toList.length = 32 := by rw [hlast, wasS_len (by rw [List.length_map]; omega)]
  have hr := g2
  simp only [rcpOk, Bool.and_eq_true, decide_eq_true_eq] at hr
  have e2 : x.was.data.toList.length = 32 := by show x.was.size = 32; omega
  obtain ⟨i1, i2, i3⟩ := saidC_inj e1 e2 ⟨by omega, by omega⟩ ⟨by omega, by omega⟩ q1 hr.1.1.1.2 he
  have hk : y.r.kind = 1 := by rw [i3]; omega
  have hm := h.make hy hk hl
  have hxe : rcpAt l k y = x := by
    have t1 := h.tags k y hy
    rw [wasS_at (map_at hy), ← hlast, i1, i3] at t1
    have e3 : x.r.epoch.toNat - first.toNat = (x.r.epoch - first).toNat := by omega
    rw [e3, i2, g6] at t1
    obtain ⟨s, r, w, t⟩ := x
    simp only at i1 i2 i3 t1
    subst i3
    have w1 := bytes_of_data i1
    have w2 := bytes_of_data t1
    unfold rcpAt
    rw [w1, w2, i2]
  rw [← hxe, ofS_at hm] at hof
  cases hof

set_option maxRecDepth 100000 in
set_option maxHeartbeats 4000000 in
theorem receiptSound_few (root : ByteArray) (first : Int) (v : Value) (l : List Sld) (x : Rcp) (w : World) (h : SldRow w v l) (hx : RcpFits x) (hf : ¬ (fewS l = true ∧ fewRcp x = true ∧ rchkS root first x = 0 ∧ x.r.epoch - first ≤ 40)) :
    Calls Try.prog 5 #[.string root, .int .i64 first, v, x.v] w fun e w' => e = .returned (.bool true) ∧ Below w.heap.size w w' := by
  obtain ⟨p, c, rfl⟩ := h.shape
  obtain ⟨n, hn⟩ : ∃ n, n = l.length := ⟨_, rfl⟩
  rw [← hn] at h ⊢
  have HR := Lib.hid h; clear h hn
  have HF := Lib.hid hf; clear hf
  go_enter Try.func5, Try.ntmps5
  go_wp2_with ((with_reducible refine wpList_box_new 48 (.tmp 3) x.cells (some 7) ?hgd ?ho ?hd ?hx ?_); (case hgd => rfl); (case ho => rfl); (case hd => rfl); (case hx => rfl); (intro b w0 l0 B0 e0 z0; have R0 := Lib.hid (RcpAt.blk B0)))
  refine (few20_walk _ l _ (HR.out.below e0 l0)).mono ?_
  rintro e w1 ⟨rfl, hb1⟩
  have R1 := Lib.hid (R0.out.below hb1 z0)
  obtain ⟨a0, a1, a2, a3, a4, a5, a6, a7, a8, a9, aA⟩ := R1.out.cells_
  have hbw := (e0.mono l0).trans (hb1.mono (by have := e0.size; omega))
  cases h1 : fewS l with
  | false =>
    have H1 := Lib.hid h1; clear h1
    clear a0 a1 a2 a3 a4 a5 a6 a7 a8 a9 aA
    go_wp2_with fail
    refine (alive21 _).mono ?_
    rintro e w3 ⟨rfl, hb3⟩
    go_wp2_with fail
    go_ret
    exact ⟨rfl, hbw.trans (hb3.mono hbw.size)⟩
  | true =>
    have H1 := Lib.hid h1; clear h1
    go_wp2_with fail
    clear a0 a1 a2 a3 a4 a5 a6 a7 a8 a9 aA
    refine (few21_walk x _).mono ?_
    rintro e w2 ⟨rfl, hb2⟩
    have hbw2 := hbw.trans (hb2.mono hbw.size)
    cases h2 : fewRcp x with
    | false =>
      have H2 := Lib.hid h2; clear h2
      go_wp2_with fail
      refine (alive21 _).mono ?_
      rintro e w3 ⟨rfl, hb3⟩
      go_wp2_with fail
      go_ret
      exact ⟨rfl, hbw2.trans (hb3.mono hbw2.size)⟩
    | true =>
      have hs : x.r.root.size ≤ 1048576 ∧ x.r.name.size ≤ 1048576 := by
        have h2' := h2
        simp only [fewRcp, fewR, Bool.and_eq_true, decide_eq_true_eq] at h2'
        omega
      have HSZ := Lib.hid hs; clear hs
      have H2 := Lib.hid h2; clear h2
      have R2 := Lib.hid (R1.out.below hb2 R1.out.lt)
      obtain ⟨a0, a1, a2, a3, a4, a5, a6, a7, a8, a9, aA⟩ := R2.out.cells_
      go_wp2_with fail
      clear a0 a1 a2 a3 a4 a5 a6 a7 a8 a9 aA
      refine (rcheck21_walk root first x _ HSZ.out.1 HSZ.out.2 hx.r.epoch hx.seq).mono ?_
      rintro e w3 ⟨rfl, hb3⟩
      have hbw3 := hbw2.trans (hb3.mono hbw2.size)
      obtain ⟨_, _, a2, _, _, _, _, _, _, _, _⟩ := (R2.out.below hb3 R2.out.lt).cells_
      by_cases h3 : rchkS root first x = 0
      · obtain ⟨g1, g2, g3, g4, g5, g6⟩ := rchkS_ok h3
        have h4 : 40 < x.r.epoch - first := by
          by_cases hh : x.r.epoch - first ≤ 40
          · exact absurd ⟨H1.out, H2.out, h3, hh⟩ HF.out
          · omega
        have hrr := (rcpOk_rec g2).2
        obtain ⟨r1, r2⟩ := hrr
        rw [h3]
        clear h3 g1 g2 g6
        go_wp2_with fail
        refine (alive21 _).mono ?_
        rintro e w4 ⟨rfl, hb4⟩
        go_wp2_with fail
        go_ret
        exact ⟨rfl, hbw3.trans (hb4.mono hbw3.size)⟩
      · clear a2
        go_wp2_with fail
        refine (alive21 _).mono ?_
        rintro e w4 ⟨rfl, hb4⟩
        go_wp2_with fail
        go_ret
        exact ⟨rfl, hbw3.trans (hb4.mono hbw3.size)⟩

set_option maxRecDepth 100000 in
set_option maxHeartbeats 8000000 in
theorem receiptSound_walk (root : ByteArray) (first : Int) (v : Value) (l : List Sld) (x : Rcp) (w : World) (h : SldRow w v l) (hx : RcpFits x) (hl : l.length ≤ 1048576) (ht : SldTame l) (hf1 : fewS l = true) (hf2 : fewRcp x = true) (hf3 : rchkS root first x = 0) (hf4 : x.r.epoch - first ≤ 40) :
    Calls Try.prog 5 #[.string root, .int .i64 first, v, x.v] w fun e w' => e = .returned (.bool true) ∧ Below w.heap.size w w' := by
  obtain ⟨p, c, rfl⟩ := h.shape
  obtain ⟨n, hn⟩ : ∃ n, n = l.length := ⟨_, rfl⟩
  rw [← hn] at h ⊢
  have hn2 : n ≤ 1048576 := by omega
  have HS := Lib.hid h; clear h
  have HN := Lib.hid hn; clear hn
  have HL := Lib.hid hl; clear hl
  have HT := Lib.hid ht; clear ht
  have H1 := Lib.hid hf1; clear hf1
  have hs : x.r.root.size ≤ 1048576 ∧ x.r.name.size ≤ 1048576 ∧ x.was.size ≤ 1048576 := by
    have h2' := hf2
    simp only [fewRcp, fewR, Bool.and_eq_true, decide_eq_true_eq] at h2'
    omega
  have HSZ := Lib.hid hs; clear hs
  have H2 := Lib.hid hf2; clear hf2
  obtain ⟨g1, g2, g3, g4, g5, g6⟩ := rchkS_ok hf3
  obtain ⟨r1, r2⟩ := (rcpOk_rec g2).2
  have H3 := Lib.hid hf3; clear hf3
  have G1 := Lib.hid g1; clear g1
  have G2 := Lib.hid g2; clear g2
  have G6 := Lib.hid g6; clear g6
  obtain ⟨t, htt⟩ : ∃ t, checkS root first l = t := ⟨_, rfl⟩
  have HTT := Lib.hid htt; clear htt
  obtain ⟨a, b', er⟩ := t
  go_enter Try.func5, Try.ntmps5
  go_wp2_with ((with_reducible refine wpList_box_new 48 (.tmp 3) x.cells (some 7) ?hgd ?ho ?hd ?hx ?_); (case hgd => rfl); (case ho => rfl); (case hd => rfl); (case hx => rfl); (intro b w0 l0 B0 e0 z0; have R0 := Lib.hid (RcpAt.blk B0)))
  refine (few20_walk _ l _ (HS.out.below e0 l0)).mono ?_
  rintro e w1 ⟨rfl, hb1⟩
  rw [H1.out]
  have R1 := Lib.hid (R0.out.below hb1 z0)
  obtain ⟨a0, a1, a2, a3, a4, a5, a6, a7, a8, a9, aA⟩ := R1.out.cells_
  have HB1 := Lib.hid ((e0.mono l0).trans (hb1.mono (by have := e0.size; omega)))
  clear hb1 R0 B0 e0 l0 z0
  go_wp2_with fail
  clear a0 a1 a2 a3 a4 a5 a6 a7 a8 a9 aA
  refine (few21_walk x _).mono ?_
  rintro e w2 ⟨rfl, hb2⟩
  rw [H2.out]
  have R2 := Lib.hid (R1.out.below hb2 R1.out.lt)
  have HB2 := Lib.hid (HB1.out.trans (hb2.mono HB1.out.size))
  obtain ⟨a0, a1, a2, a3, a4, a5, a6, a7, a8, a9, aA⟩ := R2.out.cells_
  clear hb2 R1 HB1
  go_wp2_with fail
  clear a0 a1 a2 a3 a4 a5 a6 a7 a8 a9 aA
  refine (rcheck21_walk root first x _ HSZ.out.1 HSZ.out.2.1 hx.r.epoch hx.seq).mono ?_
  rintro e w3 ⟨rfl, hb3⟩
  rw [H3.out]
  have R3 := Lib.hid (R2.out.below hb3 R2.out.lt)
  have HB3 := Lib.hid (HB2.out.trans (hb3.mono HB2.out.size))
  obtain ⟨_, _, a2, _, _, _, _, _, _, _, _⟩ := R3.out.cells_
  clear hb3 R2 HB2
  go_wp2_with fail
  clear a2
  refine (ccheck_walk root first _ l _ (HS.out.below HB3.out (Nat.le_refl _)) HL.out (fun j y hy => ⟨(HT.out j y hy).1, (HT.out j y hy).2.2.2⟩)).mono ?_
  rintro e w4 ⟨he, hb4⟩
  unfold CheckEnd at he
  rw [HTT.out] at he
  subst he
  have R4 := Lib.hid (R3.out.below hb4 R3.out.lt)
  have HB4 := Lib.hid (HB3.out.trans (hb4.mono HB3.out.size))
  clear hb4 R3 HB3
  by_cases her : er = 0
  rotate_left
  · go_wp2_with fail
    refine (alive21 _).mono ?_
    rintro e w5 ⟨rfl, hb5⟩
    go_wp2_with fail
    go_ret
    exact ⟨rfl, HB4.out.trans (hb5.mono HB4.out.size)⟩
  subst her
  obtain ⟨k1, k2, _⟩ := checkS_ok (root := root) (first := first) (l := l) (by rw [HTT.out])
  have HRR : Hid (RightRow root first l) := Lib.hid ⟨k1, k2⟩
  clear k1 k2
  obtain ⟨a0, a1, a2, a3, a4, a5, a6, a7, a8, a9, aA⟩ := R4.out.cells_
  go_wp2_with fail
  clear a0 a1 a2 a3 a4 a5 a6 a7 a8 a9 aA
  refine (forge_walk _ l x _ (HS.out.below HB4.out (Nat.le_refl _)) HL.out HT.out HSZ.out.1 HSZ.out.2.1 hx.r.epoch hx.seq).mono ?_
  rintro e w5 ⟨he, hb5⟩
  have R5 := Lib.hid (R4.out.below hb5 R4.out.lt)
  have HB5 := Lib.hid (HB4.out.trans (hb5.mono HB4.out.size))
  clear hb5 R4 HB4
  cases hof : ofS l x with
  | true =>
    have HOF := Lib.hid hof; clear hof
    rcases he with ⟨hfs, s, rfl, ts⟩ | ⟨hfs, rfl⟩
    · unfold forgeS at hfs; rw [HOF.out, G2.out] at hfs; exact absurd hfs (by decide)
    clear hfs
    obtain ⟨a0, a1, a2, a3, a4, a5, a6, a7, a8, a9, aA⟩ := R5.out.cells_
    go_wp2_with fail
    clear a0 a1 a2 a3 a4 a5 a6 a7 a8 a9 aA
    refine (of21_walk _ l x _ (HS.out.below HB5.out (Nat.le_refl _)) HL.out HT.out).mono ?_
    rintro e w6 ⟨rfl, hb6⟩
    rw [HOF.out]
    go_wp2_with fail
    refine (alive21 _).mono ?_
    rintro e w7 ⟨rfl, hb7⟩
    go_wp2_with fail
    go_ret
    exact ⟨rfl, HB5.out.trans ((bt hb6 hb7).mono HB5.out.size)⟩
  | false =>
    have HOF := Lib.hid hof; clear hof
    rcases he with ⟨hfs, s, rfl, ts⟩ | ⟨hfs, rfl⟩
    rotate_left
    · unfold forgeS at hfs; rw [HOF.out, G2.out] at hfs; exact absurd hfs (by decide)
    have hsl : s.size ≤ 16777216 := by
      rw [ts.size]
      unfold saidC
      rw [List.length_append, List.length_append, beBytes_length]
      have := recPut_length (rcpOk_rec G2.out).1
      have e1 : x.was.data.toList.length = x.was.size := rfl
      have := HSZ.out.2.2
      omega
    have TS := Lib.hid ts
    clear hfs ts
    obtain ⟨a0, a1, a2, a3, a4, a5, a6, a7, a8, a9, aA⟩ := R5.out.cells_
    go_wp2_with fail
    clear a0 a1 a2 a3 a4 a5 a6 a7 a8 a9 aA
    refine (of21_walk _ l x _ (HS.out.below HB5.out (Nat.le_refl _)) HL.out HT.out).mono ?_
    rintro e w6 ⟨rfl, hb6⟩
    rw [HOF.out]
    have R6 := Lib.hid (R5.out.below hb6 R5.out.lt)
    have HB6 := Lib.hid (HB5.out.trans (hb6.mono HB5.out.size))
    obtain ⟨_, _, a2, _, _, _, _, _, _, _, _⟩ := R6.out.cells_
    clear hb6 R5 HB5
    go_wp2_with fail
    clear a2
    refine (at_walk root first x.r.epoch _).mono ?_
    rintro e w7 ⟨he, hb7⟩
    have hrl : root.data.toList.length = 32 := G1.out
    rcases he with ⟨c2, key, rfl, tk⟩ | ⟨c2, rfl⟩ | ⟨c2, rfl⟩
    rotate_left
    · omega
    · omega
    have HB7 := Lib.hid (HB6.out.trans (hb7.mono HB6.out.size))
    have TK := Lib.hid tk
    clear c2 tk hb7 hrl R6 HB6
    go_wp2_with fail
    refine (macKey_walk key _).mono ?_
    rintro e w8 ⟨he, hb8⟩
    obtain ⟨mk, rfl, tm⟩ := he.yes (by rw [TK.out.size, atL_length])
    have HB8 := Lib.hid (HB7.out.trans (hb8.mono HB7.out.size))
    have hmk : mk.size ≤ 16777216 := by rw [tm.size, madeL_length]; omega
    have TM := Lib.hid tm
    clear hb8 tm HB7
    go_wp2_with fail
    refine (mac_walk mk s _ hmk hsl).mono ?_
    rintro e w9 ⟨t, rfl, tt, hb9⟩
    have e1 : (t.toList == x.tag.toList) = true := tt.same (Txt.self _) (by
      rw [show mk.data.toList = _ from TM.out, show key.data.toList = _ from TK.out, show s.data.toList = _ from TS.out, ← G6.out]
      rfl)
    have HB9 := Lib.hid (HB8.out.trans (hb9.mono HB8.out.size))
    clear hb9 tt HB8
    go_wp2_with fail
    clear e1
    go_loopw [104] (fun i wr => ∃ k : Nat, k ≤ n ∧ i = .int .i64 k ∧ Below w.heap.size w wr) (fun i _ => n - (intOf i).toNat)
    case atStart => exact ⟨0, by omega, rfl, HB9.out⟩
    case round =>
      obtain ⟨k, hk, rfl, hbel⟩ := hrel
      by_cases hlt : k < n
      · have hlt' : (k : Int) < n := by omega
        obtain ⟨y, hy⟩ : ∃ y, l[k]? = some y := ⟨_, List.getElem?_eq_getElem (by rw [← HN.out]; exact hlt)⟩
        rcases HS.out with ⟨h0, _⟩ | ⟨g, o, c', hq, hcc, hg, hat⟩
        · have := HN.out; rw [h0] at this; simp at this; omega
        rw [← HN.out] at hq
        injection hq with hq1 _ hq3
        subst hq1 hq3
        have hrange : wr.rangeAt g (o + k * 9) y.cells := fun j u hu => by rw [hbel.cell (by show g < w.heap.size; exact hg)]; exact hat k y hy j u hu
        obtain ⟨c0, c1, c2, c3, c4, c5, c6, c7, c8⟩ := sld_cells hrange
        have hap := sound_apart HRR.out HL.out H3.out HOF.out hy
        have HAP := Lib.hid hap
        have hty := HT.out k y hy
        have HTY := Lib.hid hty
        have hso : saidCOk (lastB (l.take k)) (k : Int) y.r := by
          have q1 := (HRR.out.ok.epochs k y.r (map_at hy)).1
          have hl2 := HRR.out.last (k := k) (by rw [← HN.out]; exact hk)
          refine ⟨?_, by omega, by omega, q1⟩
          have := congrArg List.length hl2
          rw [wasS_len (by rw [List.length_map, ← HN.out]; exact hk)] at this
          exact this
        have HSO := Lib.hid hso
        have hrow : ∀ W : World, Below w.heap.size w W → SldRow W (.slice (some ⟨g, o, none⟩) k c) (l.take k) := fun W hW => SldRow.takeK (HS.out.below hW (Nat.le_refl _)) HN.out hk
        have HROW := Lib.hid hrow
        have hkc : (k : Int) ≤ c := by have := HN.out; omega
        have htk : (l.take k).length ≤ 1048576 := by rw [List.length_take]; omega
        have HTKK := Lib.hid htk
        clear hrange hat hy hap hty hso hrow htk
        go_wp2_with (first
          | ((with_reducible refine wpList_alloc_new 36 (Sld.cells ⟨Rec.zero, ⟨#[]⟩⟩) zeroSld (some 20) ?hgd ?ho ?hd ?_); (case hgd => rfl); (case ho => rfl); (case hd => rfl); (intro b5 w5 l5 B5 e5 z5))
          | ((with_reducible refine wpList_store_new 36 (.tmp 20) (.tmp 108) b5 (Sld.cells ⟨Rec.zero, ⟨#[]⟩⟩) y.cells 36 B5 rfl rsizeSld (Sld.cells_one _) ?hgd ?ho ?hx ?hy ?_); (case hgd => rfl); (case ho => rfl); (case hx => rfl); (case hy => rfl); (intro w6 B6 o6); (have hb6 := o6.below (e5.mono l5) l5))
          | fail)
        have HBEL := Lib.hid (hbel.trans (hb6.mono hbel.size))
        have HB6 := Lib.hid B6
        have hz6 := B6.lt
        have d0 := B6.cell (i := 0) rfl
        have d1 := B6.cell (i := 1) rfl
        have d2 := B6.cell (i := 2) rfl
        have d3 := B6.cell (i := 3) rfl
        have d4 := B6.cell (i := 4) rfl
        have d5 := B6.cell (i := 5) rfl
        have d6 := B6.cell (i := 6) rfl
        have d7 := B6.cell (i := 7) rfl
        clear hbel hb6 B5 B6 e5 l5 z5 o6 c0 c1 c2 c3 c4 c5 c6 c7 c8
        go_region_with ((first
          | (go_at_call 21; refine (clast_walk _ (l.take k) _ (HROW.out _ HBEL.out.drew) HTKK.out).mono ?_; rintro e wA ⟨rfl, hbA⟩; have HA := HB6.out.drew.below hbA hz6; have y0 := HA.cell (i := 0) rfl; have y1 := HA.cell (i := 1) rfl; have y2 := HA.cell (i := 2) rfl; have y3 := HA.cell (i := 3) rfl; have y4 := HA.cell (i := 4) rfl; have y5 := HA.cell (i := 5) rfl; have y6 := HA.cell (i := 6) rfl; have y7 := HA.cell (i := 7) rfl; clear HA)
          | (go_at_call 20; refine (csaid_walk (lastB (l.take k)) k y.r _ HTY.out.2.1 HTY.out.1 HTY.out.2.2.2 (by unfold Fits; omega)).mono ?_; rintro e wB ⟨he, hbB⟩; obtain ⟨s2, rfl, ts2⟩ := he.yes HSO.out; clear he)
          | fail))
        all_goals
          have e2 : (s2.toList == s.toList) = false := ts2.other TS.out HAP.out
          go_wp2_with fail
          go_roundw
          case rel => exact ⟨k + 1, by omega, by go_num, HBEL.out.drew.trans ((bt hbA hbB).mono HBEL.out.drew.size)⟩
          case measure =>
            show n - ((k : Int) + 1).toNat < n - (k : Int).toNat
            omega
      · obtain rfl : k = n := by omega
        go_wp2_with fail
        refine (alive21 _).mono ?_
        rintro e w4 ⟨rfl, hb4⟩
        go_wp2_with fail
        go_ret
        exact ⟨rfl, hbel.trans (hb4.mono hbel.size)⟩

theorem receiptSound_law (root : ByteArray) (first : Int) (v : Value) (l : List Sld) (x : Rcp) (w : World) (hv : SldsIn w v l) (hx : RcpFits x) :
    Calls Try.prog 5 #[.string root, .int .i64 first, v, x.v] w fun e w' => e = .returned (.bool true) ∧ Below w.heap.size w w' := by
  by_cases hf : fewS l = true ∧ fewRcp x = true ∧ rchkS root first x = 0 ∧ x.r.epoch - first ≤ 40
  · refine receiptSound_walk root first v l x w hv.row hx (by have := fewS_len hf.1; omega) ?_ hf.1 hf.2.1 hf.2.2.1 hf.2.2.2
    intro j y hy
    have := fewS_each hf.1 j y hy
    exact ⟨by omega, by omega, by omega, (hv.fits j y hy).epoch⟩
  · exact receiptSound_few root first v l x w hv.row hx hf
end Go.Proofs.Ytmiikdkdccheeaa
