/- Walk of chain.Check (chapter 20). -/
import Derived.Test.YtidekfbgjghcjaaGreatSealN
namespace Go.Proofs.YtidekfbgjghcjaaGreat
set_option linter.unusedSimpArgs false
set_option linter.unusedVariables false
open Go Go.RowKit
set_option linter.unusedVariables false

theorem Kept.grownBy {b : Nat} {w w' : World} (h : Kept b w w') : w.grownBy w' (some b) := ⟨h.os, h.tape, h.output, h.size, fun k hk hne => h.block k hk (by intro e; exact hne (by rw [e]))⟩
def CheckEnd (root : ByteArray) (first : Int) (l : List Sld) (e : Ending) : Prop := e = .returned (.tuple #[.int .i64 (checkS root first l).1, .int .i64 (checkS root first l).2.1, .int .i64 (checkS root first l).2.2])
theorem checkS_arg {root : ByteArray} {first : Int} {l : List Sld} (h : ¬ root.size = 32 ∨ first < 0 ∨ 4294967295 < first) : checkS root first l = (0, 0, 2) := by unfold checkS; rw [if_pos h]
theorem map_at {l : List Sld} {k : Nat} {x : Sld} (h : l[k]? = some x) : (l.map Sld.r)[k]? = some x.r := by simp [h]
/-- What of sealed records the walks ask. -/
theorem tame_recs {l : List Sld} (ht : ∀ (j : Nat) (x : Sld), l[j]? = some x → x.r.name.size ≤ 1048576 ∧ Fits x.r.epoch) : ∀ (j : Nat) (r : Rec), (l.map Sld.r)[j]? = some r → r.name.size ≤ 1048576 ∧ Fits r.epoch := by
  intro j r hr
  rw [List.getElem?_map] at hr
  cases hx : l[j]? with
  | none => rw [hx] at hr; cases hr
  | some x => rw [hx] at hr; simp at hr; subst hr; exact ht j x hx

/-- The tags up to a place are right. -/
def GoodTo (root : List UInt8) (f : Nat) (l : List Sld) (k : Nat) : Prop := ∀ (i : Nat) (x : Sld), i < k → l[i]? = some x → x.tag.data.toList = wasS root f (l.map Sld.r) (i + 1)
set_option maxRecDepth 100000 in
set_option maxHeartbeats 4000000 in
theorem ccheck_walk (root : ByteArray) (first : Int) (v : Value) (l : List Sld) (w : World) (h : SldRow w v l) (hl : l.length ≤ 1048576) (ht : ∀ (j : Nat) (x : Sld), l[j]? = some x → x.r.name.size ≤ 1048576 ∧ Fits x.r.epoch) :
    Calls Tryz.prog 26 #[.string root, .int .i64 first, v] w fun e w' => CheckEnd root first l e ∧ Below w.heap.size w w' := by
  unfold CheckEnd
  by_cases c1 : root.size = 32
  rotate_left
  · have d1 : ¬ (root.size : Int) = 32 := by omega
    rw [checkS_arg (.inl c1)]
    clear c1 h ht hl
    go_enter Tryz.func26, Tryz.ntmps26
    go_wp2_with fail
    go_ret3
    exact ⟨rfl, Below.refl _ _⟩
  have d1 : (root.size : Int) = 32 := by omega
  obtain ⟨p, c, rfl⟩ := h.shape
  obtain ⟨n, hn⟩ : ∃ n, n = l.length := ⟨_, rfl⟩
  rw [← hn] at h ⊢
  obtain ⟨R, hR⟩ : ∃ R, R = l.map Sld.r := ⟨_, rfl⟩
  have hRl : R.length = n := by rw [hR, hn, List.length_map]
  have C1 := Lib.hid c1; clear c1
  have HT := Lib.hid (tame_recs ht); clear ht
  have HS := Lib.hid h
  have HN := Lib.hid hn
  have HRR := Lib.hid hR
  have HRL := Lib.hid hRl
  have hn2 : n ≤ 1048576 := by omega
  have HL := Lib.hid hl
  clear h hn hR hRl hl
  by_cases c2 : first < 0 ∨ 4294967295 < first
  · rw [checkS_arg (.inr c2)]
    have C2 := Lib.hid c2; clear c2
    go_enter Tryz.func26, Tryz.ntmps26
    go_wp2_with fail
    refine (crecords_walk _ l _ HS.out HL.out).mono ?_
    rintro e w1 ⟨vo, rfl, hown, hb1⟩
    clear hown
    go_wp2_with fail
    refine (follow_no first vo _ C2.out).mono ?_
    rintro e w2 ⟨rfl, hb2⟩
    go_wp2_with fail
    go_ret3
    exact ⟨rfl, bt hb1 hb2⟩
  have f0 : 0 ≤ first := by omega
  have f1 : first ≤ 4294967295 := by omega
  clear c2
  obtain ⟨ep, hep⟩ : ∃ ep, (followGo first 0 0 R).1 = ep := ⟨_, rfl⟩
  obtain ⟨at_, hat⟩ : ∃ a, (followGo first 0 0 R).2.1 = a := ⟨_, rfl⟩
  have herr := follow_err R first 0 0
  obtain ⟨er, her⟩ : ∃ a, (followGo first 0 0 R).2.2 = a := ⟨_, rfl⟩
  rw [her] at herr
  have HEP := Lib.hid hep; clear hep
  have HAT := Lib.hid hat; clear hat
  have HER := Lib.hid her; clear her
  rcases herr with rfl | rfl
  rotate_left
  · have hc : checkS root first l = (ep, (at_ : Int), 16) := by
      unfold checkS
      rw [if_neg (by have := C1.out; omega), ← HRR.out, HER.out, HEP.out, HAT.out]
      rfl
    rw [hc]
    clear hc
    go_enter Tryz.func26, Tryz.ntmps26
    go_wp2_with fail
    refine (crecords_walk _ l _ HS.out HL.out).mono ?_
    rintro e w1 ⟨vo, rfl, hown, hb1⟩
    have HRow := Lib.hid (RecRow.own (by rw [← HRR.out] at hown; exact hown) (by rw [HRL.out, HN.out])); clear hown
    go_wp2_with fail
    refine (follow_walk first vo R _ HRow.out (by rw [HRL.out]; omega) (by rw [HRR.out]; exact HT.out) f0 f1).mono ?_
    rintro e w2 ⟨rfl, hb2⟩
    rw [HEP.out, HAT.out, HER.out]
    go_wp2_with fail
    go_ret3
    exact ⟨rfl, bt hb1 hb2⟩
  obtain ⟨g1, g2, g3⟩ := follow_ok R _ _ _ HER.out
  have hepoch : ∀ r, R.getLast? = some r → 0 ≤ r.epoch ∧ r.epoch ≤ 4294967295 := by
    intro r hr
    rw [List.getLast?_eq_getElem?] at hr
    have h1 := (g3.each _ r hr).1
    simp only [recOk, Bool.and_eq_true, decide_eq_true_eq] at h1
    omega
  have HEPO := Lib.hid hepoch; clear hepoch
  have G3 := Lib.hid g3; clear g3
  clear g1 g2
  cases hby : beyondS first R with
  | true =>
    have hc : checkS root first l = (first, 0, 6) := by
      unfold checkS
      rw [if_neg (by have := C1.out; omega), ← HRR.out, HER.out, hby]
      rfl
    rw [hc]
    have HBY := Lib.hid hby; clear hc hby
    go_enter Tryz.func26, Tryz.ntmps26
    go_wp2_with fail
    refine (crecords_walk _ l _ HS.out HL.out).mono ?_
    rintro e w1 ⟨vo, rfl, hown, hb1⟩
    have HRow := Lib.hid (RecRow.own (by rw [← HRR.out] at hown; exact hown) (by rw [HRL.out, HN.out])); clear hown
    go_wp2_with fail
    refine (follow_walk first vo R _ HRow.out (by rw [HRL.out]; omega) (by rw [HRR.out]; exact HT.out) f0 f1).mono ?_
    rintro e w2 ⟨rfl, hb2⟩
    rw [HEP.out, HAT.out, HER.out]
    go_wp2_with fail
    refine (beyond_walk first vo R _ (HRow.out.below hb2 (Nat.le_refl _)) (by rw [HRL.out]; omega) f0 f1 HEPO.out).mono ?_
    rintro e w3 ⟨rfl, rfl⟩
    rw [HBY.out]
    go_wp2_with fail
    go_ret3
    exact ⟨rfl, bt hb1 hb2⟩
  | false =>
    have hok : SealOk root first R := ⟨C1.out, f0, f1, HER.out, hby⟩
    have HOK := Lib.hid hok
    have HBY := Lib.hid hby
    have hc : ∀ (o : Option Nat), badTag root.data.toList first.toNat l = o → checkS root first l = match o with | some k => (match l[k]? with | some x => x.r.epoch | none => 0, (k : Int), 15) | none => (ep, (at_ : Int), 0) := by
      intro o ho
      unfold checkS
      rw [if_neg (by have := C1.out; omega), ← HRR.out, HER.out, hby, ho, HEP.out, HAT.out]
      rfl
    have HC := Lib.hid hc
    obtain ⟨f, hf⟩ : ∃ f : Nat, first = (f : Int) := ⟨first.toNat, by omega⟩
    have hff : first.toNat = f := by omega
    have HFF := Lib.hid hff
    have HFI := Lib.hid hf
    clear hc hby hok hf hff
    go_enter Tryz.func26, Tryz.ntmps26
    go_wp2_with fail
    refine (crecords_walk _ l _ HS.out HL.out).mono ?_
    rintro e w1 ⟨vo, rfl, hown, hb1⟩
    have HRow := Lib.hid (RecRow.own (by rw [← HRR.out] at hown; exact hown) (by rw [HRL.out, HN.out])); clear hown
    go_wp2_with fail
    refine (follow_walk first vo R _ HRow.out (by rw [HRL.out]; omega) (by rw [HRR.out]; exact HT.out) f0 f1).mono ?_
    rintro e w2 ⟨rfl, hb2⟩
    rw [HEP.out, HAT.out, HER.out]
    go_wp2_with fail
    refine (beyond_walk first vo R _ (HRow.out.below hb2 (Nat.le_refl _)) (by rw [HRL.out]; omega) f0 f1 HEPO.out).mono ?_
    rintro e w3 ⟨rfl, rfl⟩
    rw [HBY.out]
    go_wp2_with fail
    refine (slrBegin_walk root first _ C1.out f0 f1).mono ?_
    rintro e w3 ⟨b, key, was, rfl, tk, tw, B3, hb, hb3⟩
    have hbw := bt hb1 (bt hb2 hb3)
    have hwb : w.heap.size ≤ b := by have := hb1.size; have := hb2.size; omega
    have HB3 := Lib.hid B3; clear B3
    have HBW := Lib.hid hbw; clear hbw hb1 hb2 hb3 HRow
    rw [HFF.out] at tk
    have hep0 : (first : Int) = ((f + 0 : Nat) : Int) := by have := HFI.out; omega
    rw [hep0] at HB3
    have HB3 := Lib.hid HB3
    clear hep0
    go_wp2_with fail
    go_loopw [46] (fun i wr => ∃ (k j : Nat) (key was : ByteArray), k ≤ n ∧ i = .int .i64 k ∧ Txt key (atL root.data.toList f j) ∧ Txt was (wasS root.data.toList f R k) ∧ j ≤ closes (R.take k) ∧ Blk wr b (slrCells key ((f + j : Nat) : Int) was (k : Int)) 208 ∧ Below w.heap.size w wr ∧ GoodTo root.data.toList f l k) (fun i _ => n - (intOf i).toNat)
    case atStart => exact ⟨0, 0, key, was, by omega, rfl, tk, tw, Nat.zero_le _, HB3.out, HBW.out, fun i x hi => by omega⟩
    case round =>
      clear HB3 HBW tk tw
      obtain ⟨k, j, key, was, hk, rfl, tk, tw, hj, hblk, hbel, hgood⟩ := hrel
      have HB := Lib.hid hblk
      have hbw := hblk.lt
      have HG := Lib.hid hgood
      have TW := Lib.hid tw
      have TK := Lib.hid tk
      clear hblk hgood tw tk
      by_cases hlt : k < n
      · have hlt' : (k : Int) < n := by omega
        obtain ⟨x, hx⟩ : ∃ x, l[k]? = some x := ⟨_, List.getElem?_eq_getElem (by rw [← HN.out]; exact hlt)⟩
        rcases HS.out with ⟨h0, _⟩ | ⟨g, o, c', hq, hcc, hg, hat⟩
        · have := HN.out; rw [h0] at this; simp at this; omega
        rw [← HN.out] at hq
        injection hq with hq1 _ hq3
        subst hq1 hq3
        have hrange : wr.rangeAt g (o + k * 9) x.cells := fun j u hu => by rw [hbel.cell (by show g < w.heap.size; exact hg)]; exact hat k x hx j u hu
        obtain ⟨c0, c1, c2, c3, c4, c5, c6, c7, c8⟩ := sld_cells hrange
        have hxr : R[k]? = some x.r := by rw [HRR.out]; exact map_at hx
        obtain ⟨q1, q2, q3⟩ := HOK.out.epochs k x.r hxr
        have Q1 := Lib.hid q1
        have hep1 : ((f + j : Nat) : Int) ≤ x.r.epoch := by rw [q2, HFI.out]; omega
        have hwk : was.size = 32 := by rw [TW.out.size, wasS_len (by rw [HRL.out]; exact hk)]
        have HWK := Lib.hid hwk
        have HW1 : Hid (wasS root.data.toList f R (k + 1) = tagC (atL root.data.toList f (x.r.epoch.toNat - f)) (wasS root.data.toList f R k) k x.r) := Lib.hid (wasS_at hxr)
        have hcl : closes (R.take k) ≤ closes (R.take (k + 1)) := closes_take_mono R (by omega)
        have HQ2 := Lib.hid q2
        have HX := Lib.hid hx
        have HXR := Lib.hid hxr
        clear hrange hat hx hxr q1 q2 hwk
        go_wp2_with (first
          | ((with_reducible refine wpList_alloc_new 27 (Sld.cells ⟨Rec.zero, ⟨#[]⟩⟩) zeroSld (some 16) ?hgd ?ho ?hd ?_); (case hgd => rfl); (case ho => rfl); (case hd => rfl); (intro b5 w5 l5 B5 e5 z5))
          | ((with_reducible refine wpList_store_new 27 (.tmp 16) (.tmp 50) b5 (Sld.cells ⟨Rec.zero, ⟨#[]⟩⟩) x.cells 27 B5 rfl rsizeSld (Sld.cells_one _) ?hgd ?ho ?hx ?hy ?_); (case hgd => rfl); (case ho => rfl); (case hx => rfl); (case hy => rfl); (intro w6 B6 o6); (have hb6 := o6.below (e5.mono l5) l5))
          | fail)
        have hB6s := HB.out.below hb6 hbw
        have HB6s := Lib.hid hB6s
        have hbel6 := hbel.trans (hb6.mono hbel.size)
        have HBEL := Lib.hid hbel6
        have hb56 : b5 ≠ b := by omega
        have HB6 := Lib.hid B6
        have d0 := B6.cell (i := 0) rfl
        have d1 := B6.cell (i := 1) rfl
        have d2 := B6.cell (i := 2) rfl
        have d3 := B6.cell (i := 3) rfl
        have d4 := B6.cell (i := 4) rfl
        have d5 := B6.cell (i := 5) rfl
        have d6 := B6.cell (i := 6) rfl
        have d7 := B6.cell (i := 7) rfl
        have d8 := B6.cell (i := 8) rfl
        clear hB6s hbel6 hbel B5 B6 e5 l5 z5 o6 hb6 HB c0 c1 c2 c3 c4 c5 c6 c7 c8
        by_cases hT : x.tag.data.toList = wasS root.data.toList f R (k + 1)
        · have HTT := Lib.hid hT; clear hT
          go_region_with ((go_at_call 79; refine (slrNext_walk b key was root.data.toList f j k x.r _ HB6s.out.drew TK.out Q1.out hep1 HWK.out (by omega)).mono ?_; rintro e w7 ⟨t, k', rfl, tt, tk', B7, K7⟩; have ew : Txt t (wasS root.data.toList f R (k + 1)) := (by rw [HW1.out]; exact tt.cast (by rw [show was.data.toList = _ from TW.out])); have e1 : (t.toList == x.tag.toList) = true := ew.same (Txt.self _) HTT.out.symm; have z8 : w7.cell? ⟨b5, 8, none⟩ = some (.string x.tag) := (K7.blk HB6.out.drew hb56).cell (i := 8) rfl; have HB7 := Lib.hid B7; have HK7 := Lib.hid K7; clear B7 K7))
          all_goals
            go_wp2_with fail
            go_roundw
            case rel =>
              have hE := HQ2.out
              have hF := HFI.out
              have hep2 : x.r.epoch.toNat - f = closes (R.take k) := by omega
              refine ⟨k + 1, x.r.epoch.toNat - f, k', t, by omega, by go_num, tk', ew, by omega, HB7.out.ext ?_, ?_, ?_⟩
              · rw [show ((f + (x.r.epoch.toNat - f) : Nat) : Int) = x.r.epoch by omega]
              · exact HK7.out.below HBEL.out.drew hwb HBEL.out.drew.size
              · intro i y hi hy
                by_cases hik : i = k
                · subst hik
                  rw [HX.out] at hy
                  obtain rfl := Option.some.inj hy
                  rw [← HRR.out]
                  exact HTT.out
                · exact HG.out i y (by omega) hy
            case measure => simp [intOf]; omega
        · have HTT := Lib.hid hT; clear hT
          go_region_with ((go_at_call 79; refine (slrNext_walk b key was root.data.toList f j k x.r _ HB6s.out.drew TK.out Q1.out hep1 HWK.out (by omega)).mono ?_; rintro e w7 ⟨t, k', rfl, tt, tk', B7, K7⟩; have ew : Txt t (wasS root.data.toList f R (k + 1)) := (by rw [HW1.out]; exact tt.cast (by rw [show was.data.toList = _ from TW.out])); have e1 : (t.toList == x.tag.toList) = false := ew.other (Txt.self _) (fun h => HTT.out h.symm); have z8 : w7.cell? ⟨b5, 8, none⟩ = some (.string x.tag) := (K7.blk HB6.out.drew hb56).cell (i := 8) rfl; have z1 : w7.cell? ⟨b5, 1, none⟩ = some (.int .i64 x.r.epoch) := (K7.blk HB6.out.drew hb56).cell (i := 1) rfl; have HB7 := Lib.hid B7; have HK7 := Lib.hid K7; clear B7 K7))
          all_goals
            go_wp2_with fail
            go_ret3
            have hbad := HC.out _ (badTag_some (root := root.data.toList) (f := first.toNat) HX.out (by rw [HFF.out, ← HRR.out]; exact HTT.out) (fun i y hi hy => by rw [HFF.out]; exact HG.out i y hi hy))
            simp only [HX.out] at hbad
            rw [hbad]
            exact ⟨rfl, HK7.out.below HBEL.out.drew hwb HBEL.out.drew.size⟩
      · obtain rfl : k = n := by omega
        go_wp2_with fail
        go_ret3
        have hgood := HC.out _ (badTag_none.2 (fun i x hx => by rw [HFF.out]; exact HG.out i x (by rw [HN.out]; exact (List.getElem?_eq_some_iff.1 hx).1) hx))
        rw [hgood]
        exact ⟨rfl, hbel⟩
end Go.Proofs.YtidekfbgjghcjaaGreat
