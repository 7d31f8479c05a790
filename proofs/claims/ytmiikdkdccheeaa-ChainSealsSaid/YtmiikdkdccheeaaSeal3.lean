/- Walk of chain.Seal (chapter 20). -/
import Derived.Test.YtmiikdkdccheeaaSealN
import Derived.Test.YtmiikdkdccheeaaStep
namespace Go.Proofs.Ytmiikdkdccheeaa
set_option linter.unusedSimpArgs false
set_option linter.unusedVariables false
open Go Go.RowKit
set_option linter.unusedVariables false

theorem Kept.grownBy {b : Nat} {w w' : World} (h : Kept b w w') : w.grownBy w' (some b) := ⟨h.os, h.tape, h.output, h.size, fun k hk hne => h.block k hk (by intro e; exact hne (by rw [e]))⟩
/-- Records with their tags, so many. -/
def sealTo (root : List UInt8) (f : Nat) (l : List Rec) (k : Nat) : List Sld := (List.range k).map (fun j => ⟨l.getD j Rec.zero, ⟨(wasS root f l (j + 1)).toArray⟩⟩)
theorem sealTo_length (root : List UInt8) (f : Nat) (l : List Rec) (k : Nat) : (sealTo root f l k).length = k := by simp [sealTo]
theorem sealTo_succ {root : List UInt8} {f : Nat} {l : List Rec} {k : Nat} {r : Rec} (h : l[k]? = some r) : sealTo root f l (k + 1) = sealTo root f l k ++ [⟨r, ⟨(wasS root f l (k + 1)).toArray⟩⟩] := by
  simp [sealTo, List.range_succ, List.getD, h]
theorem sealTo_at {root : List UInt8} {f : Nat} {l : List Rec} {k n : Nat} (hk : k < n) : (sealTo root f l n)[k]? = some ⟨l.getD k Rec.zero, ⟨(wasS root f l (k + 1)).toArray⟩⟩ := by simp [sealTo, hk]
theorem sealTo_recs (root : List UInt8) (f : Nat) (l : List Rec) : (sealTo root f l l.length).map Sld.r = l := by
  apply List.ext_getElem?
  intro i
  rw [List.getElem?_map]
  by_cases hi : i < l.length
  · rw [sealTo_at hi, List.getElem?_eq_getElem hi]
    simp [List.getD, List.getElem?_eq_getElem hi]
  · rw [List.getElem?_eq_none (by rw [sealTo_length]; omega), List.getElem?_eq_none (by omega)]
    rfl
def flatS (ys : List Sld) : List Value := ys.flatMap Sld.cells
theorem flatS_snoc (ys : List Sld) (y : Sld) : flatS (ys ++ [y]) = flatS ys ++ y.cells := by simp [flatS]
theorem flatS_at (ys : List Sld) : ∀ (j : Nat) (y : Sld), ys[j]? = some y → ∀ (i : Nat) (u : Value), y.cells[i]? = some u → (flatS ys)[j * 9 + i]? = some u := by
  induction ys with
  | nil => intro j y h; simp at h
  | cons a r ih =>
    intro j y h i u hu
    have ha : a.cells.length = 9 := rfl
    show (a.cells ++ flatS r)[_]? = _
    cases j with
    | zero =>
      simp at h
      subst h
      have := (List.getElem?_eq_some_iff.1 hu).1
      rw [List.getElem?_append_left (by omega), Nat.zero_mul, Nat.zero_add]
      exact hu
    | succ j =>
      rw [List.getElem?_append_right (by omega), ha, show (j + 1) * 9 + i - 9 = j * 9 + i by omega]
      exact ih j y (by simpa using h) i u hu
theorem SldRow.own {w : World} {base n : Nat} {v : Value} {xs : List Sld} (h : w.ownsRow base 36 9 v n (flatS xs)) (hn : n = xs.length) : SldRow w v xs := by
  subst hn
  by_cases h0 : xs = []
  · subst h0
    exact .inl ⟨rfl, own_nil h⟩
  · obtain ⟨g, cap, z, rfl, hc, hb, hk⟩ := own_split h (List.length_pos_iff.2 h0)
    refine .inr ⟨g, 0, cap, rfl, hc, hk.lt, fun j x hx i u hu => ?_⟩
    refine hk.cell ?_
    have h1 := flatS_at xs j x hx i u hu
    rw [Nat.zero_add, List.getElem?_append_left (List.getElem?_eq_some_iff.1 h1).1]
    exact h1
theorem infoSld : (Try.prog.info? 36).map (fun i => (i.zero, i.size, i.bytes)) = some (some (.agg (Sld.cells ⟨Rec.zero, ⟨#[]⟩⟩).toArray), 9, 96) := by kernel_rfl
theorem zeroRec1 (w : World) : Sem.run Try.prog (zeroValue 34) w = .ok (.agg Rec.zero.cells.toArray) w := by kernel_rfl

/-- How Seal ends. -/
def SealEnd (root : ByteArray) (first : Int) (l : List Rec) (w w' : World) (e : Ending) : Prop :=
  (SealOk root first l ∧ ∃ vo, e = .returned (.tuple #[vo, .int .i64 0]) ∧ w'.ownsRow w.heap.size 36 9 vo l.length (flatS (sealTo root.data.toList first.toNat l l.length))) ∨
  (¬ SealOk root first l ∧ ∃ c : Int, c ≠ 0 ∧ e = .returned (.tuple #[.slice none 0 0, .int .i64 c]))

set_option maxRecDepth 100000 in
set_option maxHeartbeats 4000000 in
theorem cseal_walk (root : ByteArray) (first : Int) (v : Value) (R : List Rec) (w : World) (h : RecRow w v R) (hl : R.length ≤ 1048576) (ht : ∀ (j : Nat) (r : Rec), R[j]? = some r → r.name.size ≤ 1048576 ∧ Fits r.epoch) :
    Calls Try.prog 12 #[.string root, .int .i64 first, v] w fun e w' => SealEnd root first R w w' e ∧ Below w.heap.size w w' := by
  by_cases c1 : root.size = 32
  rotate_left
  · have d1 : ¬ (root.size : Int) = 32 := by omega
    have hno : ¬ SealOk root first R := fun h => c1 h.root
    have HNO := Lib.hid hno
    clear c1 h ht hl hno
    go_enter Try.func12, Try.ntmps12
    go_wp2_with fail
    go_ret2
    exact ⟨.inr ⟨HNO.out, 2, by omega, rfl⟩, Below.refl _ _⟩
  have d1 : (root.size : Int) = 32 := by omega
  obtain ⟨p, c, rfl⟩ : ∃ (p : Option Addr) (c : Nat), v = .slice p R.length c := by
    rcases h with ⟨rfl, p, c, rfl⟩ | ⟨g, o, c, rfl, _⟩
    · exact ⟨p, c, rfl⟩
    · exact ⟨_, c, rfl⟩
  obtain ⟨n, hn⟩ : ∃ n, n = R.length := ⟨_, rfl⟩
  rw [← hn] at h ⊢
  have C1 := Lib.hid c1; clear c1
  have HT := Lib.hid ht; clear ht
  have HS := Lib.hid h
  have HN := Lib.hid hn
  have hn2 : n ≤ 1048576 := by omega
  have HL := Lib.hid hl
  clear h hn hl
  by_cases c2 : first < 0 ∨ 4294967295 < first
  · have hno : ¬ SealOk root first R := fun h => by have := h.first0; have := h.first1; omega
    have HNO := Lib.hid hno; clear hno
    have C2 := Lib.hid c2; clear c2
    go_enter Try.func12, Try.ntmps12
    go_wp2_with fail
    refine (follow_no first _ _ C2.out).mono ?_
    rintro e w2 ⟨rfl, hb2⟩
    go_wp2_with fail
    go_ret2
    exact ⟨.inr ⟨HNO.out, 2, by omega, rfl⟩, hb2⟩
  have f0 : 0 ≤ first := by omega
  have f1 : first ≤ 4294967295 := by omega
  clear c2
  obtain ⟨ep, hep⟩ : ∃ ep, (followGo first 0 0 R).1 = ep := ⟨_, rfl⟩
  obtain ⟨at_, hat⟩ : ∃ a, (followGo first 0 0 R).2.1 = a := ⟨_, rfl⟩
  have herr := follow_err R first 0 0
  obtain ⟨er, her⟩ : ∃ a, (followGo first 0 0 R).2.2 = a := ⟨_, rfl⟩
  rw [her] at herr
  have HEP := Lib.hid hep; clear hep
  have HAT := Lib.hid hat; clear hat
  have HER := Lib.hid her; clear her
  rcases herr with rfl | rfl
  rotate_left
  · have hno : ¬ SealOk root first R := fun h => by have := h.follow; rw [HER.out] at this; omega
    have HNO := Lib.hid hno; clear hno
    go_enter Try.func12, Try.ntmps12
    go_wp2_with fail
    refine (follow_walk first _ R _ HS.out HL.out HT.out f0 f1).mono ?_
    rintro e w2 ⟨rfl, hb2⟩
    rw [HEP.out, HAT.out, HER.out]
    go_wp2_with fail
    go_ret2
    exact ⟨.inr ⟨HNO.out, 16, by omega, rfl⟩, hb2⟩
  obtain ⟨g1, g2, g3⟩ := follow_ok R _ _ _ HER.out
  have hepoch : ∀ r, R.getLast? = some r → 0 ≤ r.epoch ∧ r.epoch ≤ 4294967295 := by
    intro r hr
    rw [List.getLast?_eq_getElem?] at hr
    have h1 := (g3.each _ r hr).1
    simp only [recOk, Bool.and_eq_true, decide_eq_true_eq] at h1
    omega
  have HEPO := Lib.hid hepoch; clear hepoch
  clear g1 g2 g3
  cases hby : beyondS first R with
  | true =>
    have hno : ¬ SealOk root first R := fun h => by have := h.near; rw [hby] at this; cases this
    have HNO := Lib.hid hno; clear hno
    have HBY := Lib.hid hby; clear hby
    go_enter Try.func12, Try.ntmps12
    go_wp2_with fail
    refine (follow_walk first _ R _ HS.out HL.out HT.out f0 f1).mono ?_
    rintro e w2 ⟨rfl, hb2⟩
    rw [HEP.out, HAT.out, HER.out]
    go_wp2_with fail
    refine (beyond_walk first _ R _ (HS.out.below hb2 (Nat.le_refl _)) HL.out f0 f1 HEPO.out).mono ?_
    rintro e w3 ⟨rfl, rfl⟩
    rw [HBY.out]
    go_wp2_with fail
    go_ret2
    exact ⟨.inr ⟨HNO.out, 6, by omega, rfl⟩, hb2⟩
  | false =>
    have HOK : Hid (SealOk root first R) := Lib.hid ⟨C1.out, f0, f1, HER.out, hby⟩
    have HBY := Lib.hid hby
    obtain ⟨f, hf⟩ : ∃ f : Nat, first = (f : Int) := ⟨first.toNat, by omega⟩
    have hff : first.toNat = f := by omega
    have HFF := Lib.hid hff
    have HFI := Lib.hid hf
    clear hby hf hff
    obtain ⟨i0, hi, hz0, hz1, hz2⟩ := info_parts infoSld
    go_enter Try.func12, Try.ntmps12
    go_wp2_with fail
    refine (follow_walk first _ R _ HS.out HL.out HT.out f0 f1).mono ?_
    rintro e w2 ⟨rfl, hb2⟩
    rw [HEP.out, HAT.out, HER.out]
    go_wp2_with fail
    refine (beyond_walk first _ R _ (HS.out.below hb2 (Nat.le_refl _)) HL.out f0 f1 HEPO.out).mono ?_
    rintro e w3 ⟨rfl, rfl⟩
    rw [HBY.out]
    go_wp2_with fail
    refine (slrBegin_walk root first _ C1.out f0 f1).mono ?_
    rintro e w3 ⟨b, key, was, rfl, tk, tw, B3, hb, hb3⟩
    have hbw := bt hb2 hb3
    have hwb : w.heap.size ≤ b := by have := hb2.size; omega
    have HB3 := Lib.hid B3; clear B3
    have HBW := Lib.hid hbw; clear hbw hb2 hb3
    rw [HFF.out] at tk
    have hep0 : (first : Int) = ((f + 0 : Nat) : Int) := by have := HFI.out; omega
    rw [hep0] at HB3
    have HB3 := Lib.hid HB3
    clear hep0
    go_wp2_with fail
    go_loopw [13, 40] (fun vo i wr => ∃ (k j : Nat) (key was : ByteArray), k ≤ n ∧ i = .int .i64 k ∧ Txt key (atL root.data.toList f j) ∧ Txt was (wasS root.data.toList f R k) ∧ j ≤ closes (R.take k) ∧ Blk wr b (slrCells key ((f + j : Nat) : Int) was (k : Int)) 114 ∧ Below w.heap.size w wr ∧ wr.ownsRow (b + 1) 36 9 vo k (flatS (sealTo root.data.toList f R k))) (fun _ i _ => n - (intOf i).toNat)
    case atStart => exact ⟨0, 0, key, was, by omega, rfl, tk, tw, Nat.zero_le _, HB3.out, HBW.out, World.ownsRow_nil _ _ _ _⟩
    case round =>
      clear HB3 HBW tk tw
      obtain ⟨k, j, key, was, hk, rfl, tk, tw, hj, hblk, hbel, hown⟩ := hrel
      obtain ⟨q, d, rfl⟩ := own_shape hown
      have HO := Lib.hid hown
      have HB := Lib.hid hblk
      have hbw := hblk.lt
      have TW := Lib.hid tw
      have TK := Lib.hid tk
      clear hblk hown tw tk
      by_cases hlt : k < n
      · have hlt' : (k : Int) < n := by omega
        obtain ⟨r, hx⟩ : ∃ x, R[k]? = some x := ⟨_, List.getElem?_eq_getElem (by rw [← HN.out]; exact hlt)⟩
        rcases HS.out with ⟨h0, _⟩ | ⟨g, o, c', hq, hg, hat⟩
        · have := HN.out; rw [h0] at this; simp at this; omega
        rw [← HN.out] at hq
        injection hq with hq1 _ hq3
        subst hq1 hq3
        have hrange : wr.rangeAt g (o + k * 8) r.cells := fun j u hu => by rw [hbel.cell (by show g < w.heap.size; exact hg)]; exact hat k r hx j u hu
        obtain ⟨c0, c1, c2, c3, c4, c5, c6, c7⟩ := rec_cells hrange
        obtain ⟨q1, q2, q3⟩ := HOK.out.epochs k r hx
        have Q1 := Lib.hid q1
        have hep1 : ((f + j : Nat) : Int) ≤ r.epoch := by rw [q2, HFI.out]; omega
        have hwk : was.size = 32 := by rw [TW.out.size, wasS_len (by rw [← HN.out]; exact hk)]
        have HWK := Lib.hid hwk
        have HW1 : Hid (wasS root.data.toList f R (k + 1) = tagC (atL root.data.toList f (r.epoch.toNat - f)) (wasS root.data.toList f R k) k r) := Lib.hid (wasS_at hx)
        have hcl : closes (R.take k) ≤ closes (R.take (k + 1)) := closes_take_mono R (by omega)
        have HQ2 := Lib.hid q2
        have HX := Lib.hid hx
        clear hrange hat hx q1 q2 hwk
        go_wp2_with (first
          | ((with_reducible refine wpList_alloc_new 34 Rec.zero.cells zeroRec1 (some 15) ?hgd ?ho ?hd ?_); (case hgd => rfl); (case ho => rfl); (case hd => rfl); (intro b5 w5 l5 B5 e5 z5))
          | ((with_reducible refine wpList_store_new 34 (.tmp 15) (.tmp 43) b5 Rec.zero.cells r.cells 34 B5 rfl rsizeRec (Rec.cells_one1 _) ?hgd ?ho ?hx ?hy ?_); (case hgd => rfl); (case ho => rfl); (case hx => rfl); (case hy => rfl); (intro w6 B6 o6); (have hb6 := o6.below (e5.mono l5) l5))
          | fail)
        have HB6s := Lib.hid (HB.out.below hb6 hbw)
        have HBEL := Lib.hid (hbel.trans (hb6.mono hbel.size))
        have HO6 := Lib.hid (own_below hb6 HO.out)
        have hb6z : b < w6.heap.size := HB6s.out.lt
        have hb56 : b5 ≠ b := by omega
        have HB6 := Lib.hid B6
        have d0 := B6.cell (i := 0) rfl
        have d1 := B6.cell (i := 1) rfl
        have d2 := B6.cell (i := 2) rfl
        have d3 := B6.cell (i := 3) rfl
        have d4 := B6.cell (i := 4) rfl
        have d5 := B6.cell (i := 5) rfl
        have d6 := B6.cell (i := 6) rfl
        have d7 := B6.cell (i := 7) rfl
        clear hbel B5 B6 e5 l5 z5 o6 hb6 HB HO c0 c1 c2 c3 c4 c5 c6 c7
        go_region_law (first
          | (refine step_append_own rfl _ _ 22 rfl (b + 1) 36 i0 (.agg (Sld.cells ⟨Rec.zero, ⟨#[]⟩⟩).toArray) 9 96 Try.underlying22 hi hz0 hz1 hz2 rfl (by decide) _ _ _ rfl (World.ownsRow.alloc OW7.out (.cells (Sld.cells ⟨r, t⟩).toArray 36)) ⟨w7.heap.size, 0, none⟩ 1 1 (Sld.cells ⟨r, t⟩) rfl rfl (cells_add (Blk.new w7 (Sld.cells ⟨r, t⟩) 36)) (Sld.cells_one _) (by unfold maxLen; omega) (by omega) (by simp; omega) ?_; intro v' w8 own8 grow8 nil8)
          | (go_simp; go_at_call 41; refine (slrNext_walk b key was root.data.toList f j k r _ HB6s.out.drew TK.out Q1.out hep1 HWK.out (by omega)).mono ?_; rintro e w7 ⟨t, k', rfl, tt, tk', B7, K7⟩; have ew : Txt t (wasS root.data.toList f R (k + 1)) := (by rw [HW1.out]; exact tt.cast (by rw [show was.data.toList = _ from TW.out])); have B67 := K7.blk HB6.out.drew hb56; have y0 := B67.cell (i := 0) rfl; have y1 := B67.cell (i := 1) rfl; have y2 := B67.cell (i := 2) rfl; have y3 := B67.cell (i := 3) rfl; have y4 := B67.cell (i := 4) rfl; have y5 := B67.cell (i := 5) rfl; have y6 := B67.cell (i := 6) rfl; have y7 := B67.cell (i := 7) rfl; have OW7 := Lib.hid (own_grown (own_drew HO6.out) K7.grownBy (Nat.lt_succ_self b)); have hz7 : b < w7.heap.size := B7.lt; have HB7 := Lib.hid B7; have HK7 := Lib.hid K7; clear B7 K7 B67)
          | fail)
        all_goals
          have hbel7 : Below w.heap.size w (w7.alloc (.cells (Sld.cells ⟨r, t⟩).toArray 36)) := (HK7.out.below HBEL.out.drew hwb HBEL.out.drew.size).alloc (HK7.out.below HBEL.out.drew hwb HBEL.out.drew.size).size _
          have hblk7 := (HB7.out.alloc (.cells (Sld.cells ⟨r, t⟩).toArray 36)).grown grow8 (own_ne (World.ownsRow.alloc OW7.out (.cells (Sld.cells ⟨r, t⟩).toArray 36)) (Nat.lt_succ_self b))
          go_wp2_with fail
          go_roundw
          case rel =>
            have hE := HQ2.out
            have hF := HFI.out
            have hep2 : r.epoch.toNat - f = closes (R.take k) := by omega
            refine ⟨k + 1, r.epoch.toNat - f, k', t, by omega, by go_num, tk', ew, by omega, hblk7.ext ?_, ?_, ?_⟩
            · rw [show ((f + (r.epoch.toNat - f) : Nat) : Int) = r.epoch by omega]
            · exact below_own hbel7 (World.ownsRow.alloc OW7.out (.cells (Sld.cells ⟨r, t⟩).toArray 36)) grow8 (by omega) hbel7.size
            · rw [sealTo_succ HX.out, flatS_snoc]
              have : (⟨(wasS root.data.toList f R (k + 1)).toArray⟩ : ByteArray) = t := ew.of.symm
              rw [this]
              exact own8
          case measure => simp [intOf]; omega
      · obtain rfl : k = n := by omega
        go_wp2_with fail
        go_ret2
        refine ⟨.inl ⟨HOK.out, _, rfl, ?_⟩, hbel⟩
        rw [← HN.out, HFF.out]
        exact own_base HO.out (by omega)
end Go.Proofs.Ytmiikdkdccheeaa
