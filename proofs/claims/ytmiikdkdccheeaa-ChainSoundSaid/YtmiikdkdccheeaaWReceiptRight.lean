/- Walk of ReceiptRight: for every root, first epoch and sealed records the law returns true. No condition. -/
import Derived.Test.YtmiikdkdccheeaaRcpC
import Derived.Test.YtmiikdkdccheeaaSeal2
import Derived.Test.YtmiikdkdccheeaaG8
namespace Go.Proofs.Ytmiikdkdccheeaa
set_option linter.unusedSimpArgs false
set_option linter.unusedVariables false
open Go Go.RowKit
set_option linter.unusedVariables false

/-- Sealed records that are right. -/
structure RightRow (root : ByteArray) (first : Int) (l : List Sld) : Prop where
  ok : SealOk root first (l.map Sld.r)
  tags : ∀ (k : Nat) (x : Sld), l[k]? = some x → x.tag.data.toList = wasS root.data.toList first.toNat (l.map Sld.r) (k + 1)
section
variable {root : ByteArray} {first : Int} {l : List Sld} (h : RightRow root first l)
include h
theorem RightRow.last {k : Nat} (hk : k ≤ l.length) : (lastB (l.take k)).data.toList = wasS root.data.toList first.toNat (l.map Sld.r) k := by
  cases k with
  | zero => rfl
  | succ k =>
    obtain ⟨x, hx⟩ : ∃ x, l[k]? = some x := ⟨_, List.getElem?_eq_getElem (by omega)⟩
    have hl : (l.take (k + 1)).getLast? = some x := by
      rw [List.getLast?_eq_getElem?, List.length_take, Nat.min_eq_left (by omega), List.getElem?_take, if_pos (by omega)]
      exact hx
    unfold lastB
    rw [hl]
    exact h.tags k x hx
theorem RightRow.rcp {k : Nat} {x : Sld} (hx : l[k]? = some x) (hk : x.r.kind = 1) (hl : l.length ≤ 1048576) : rcpOk (rcpAt l k x) = true := by
  have hlen := (List.getElem?_eq_some_iff.1 hx).1
  obtain ⟨g1, _, _⟩ := h.ok.epochs k x.r (map_at hx)
  have e1 : (lastB (l.take k)).size = 32 := by
    have := congrArg List.length (h.last (k := k) (by omega))
    rw [wasS_len (by rw [List.length_map]; omega)] at this
    exact this
  have e2 : x.tag.size = 32 := by
    have := congrArg List.length (h.tags k x hx)
    rw [wasS_len (by rw [List.length_map]; omega)] at this
    exact this
  simp only [rcpOk, Bool.and_eq_true, decide_eq_true_eq]
  refine ⟨⟨⟨⟨⟨?_, ?_⟩, g1⟩, hk⟩, ?_⟩, ?_⟩
  · show (0 : Int) ≤ (k : Int); omega
  · show (k : Int) ≤ 4294967295; omega
  · show ((lastB (l.take k)).size : Int) = 32; omega
  · show (x.tag.size : Int) = 32; omega
theorem RightRow.make {k : Nat} {x : Sld} (hx : l[k]? = some x) (hk : x.r.kind = 1) (hl : l.length ≤ 1048576) : makeS l k = (rcpAt l k x, 0) := by rw [makeS_at hx hk, h.rcp hx hk hl, if_pos rfl]
theorem RightRow.chk {k : Nat} {x : Sld} (hx : l[k]? = some x) (hk : x.r.kind = 1) (hl : l.length ≤ 1048576) : rchkS root first (rcpAt l k x) = 0 := by
  have hlen := (List.getElem?_eq_some_iff.1 hx).1
  obtain ⟨g1, g2, g3⟩ := h.ok.epochs k x.r (map_at hx)
  have hf0 := h.ok.first0
  have hr := h.ok.root
  unfold rchkS
  rw [if_neg (by rw [h.rcp hx hk hl]; simp; exact hr), if_neg (by show ¬ (x.r.epoch < first ∨ first < 0); omega), if_neg (by show ¬ (4096 < x.r.epoch - first); omega), if_pos]
  show tagC (atL root.data.toList first.toNat (x.r.epoch - first).toNat) (lastB (l.take k)).data.toList (k : Int) x.r = x.tag.data.toList
  rw [h.last (by omega), h.tags k x hx, wasS_at (map_at hx)]
  congr 2
  omega
theorem RightRow.all (hl : l.length ≤ 1048576) : ∀ n, n ≤ l.length → (allS l n).length = closes ((l.map Sld.r).take n) ∧ ∀ (i : Nat) (y : Rcp), (allS l n)[i]? = some y → ∃ (k : Nat) (x : Sld), l[k]? = some x ∧ x.r.kind = 1 ∧ y = rcpAt l k x ∧ closes ((l.map Sld.r).take k) = i := by
  intro n
  induction n with
  | zero => intro _; exact ⟨by simp [allS, closes], fun i y hy => by simp [allS] at hy⟩
  | succ n ih =>
    intro hn
    obtain ⟨h1, h2⟩ := ih (by omega)
    obtain ⟨x, hx⟩ : ∃ x, l[n]? = some x := ⟨_, List.getElem?_eq_getElem (by omega)⟩
    rw [allS_succ, closes_take_succ (map_at hx)]
    by_cases hk : x.r.kind = 1
    · rw [h.make hx hk hl, if_pos rfl, if_pos hk]
      refine ⟨by rw [List.length_append, h1]; rfl, fun i y hy => ?_⟩
      by_cases hi : i < (allS l n).length
      · rw [List.getElem?_append_left hi] at hy
        exact h2 i y hy
      · rw [List.getElem?_append_right (by omega)] at hy
        have hi0 : i - (allS l n).length = 0 := by
          by_cases hz : i - (allS l n).length = 0
          · exact hz
          · rw [List.getElem?_eq_none (by simp; omega)] at hy; cases hy
        rw [hi0] at hy
        simp at hy
        exact ⟨n, x, hx, hk, hy.symm, by omega⟩
    · have hm : makeS l (n : Int) = (Rcp.zero, 7) := makeS_none (by rw [closeAt_at hx, if_neg hk])
      rw [hm, if_neg (by decide), if_neg hk, List.append_nil, Nat.add_zero]
      exact ⟨h1, h2⟩
end
theorem ofS_at {l : List Sld} {k : Nat} {x : Sld} (hm : makeS l k = (rcpAt l k x, 0)) : ofS l (rcpAt l k x) = true := by
  unfold ofS
  rw [show (rcpAt l k x).seq = (k : Int) from rfl, hm]
  simp

set_option maxRecDepth 100000 in
set_option maxHeartbeats 4000000 in
theorem receiptRight_walk (root : ByteArray) (first : Int) (v : Value) (l : List Sld) (w : World) (h : SldRow w v l) (hf : fewS l = true) (hl : l.length ≤ 1048576) (ht : SldTame l) :
    Calls Try.prog 6 #[.string root, .int .i64 first, v] w fun e w' => e = .returned (.bool true) ∧ Below w.heap.size w w' := by
  obtain ⟨p, c, rfl⟩ := h.shape
  obtain ⟨n, hn⟩ : ∃ n, n = l.length := ⟨_, rfl⟩
  rw [← hn] at h ⊢
  have hn2 : n ≤ 1048576 := by omega
  have HS := Lib.hid h; clear h
  have H1 := Lib.hid hf; clear hf
  have HN := Lib.hid hn; clear hn
  have HL := Lib.hid hl; clear hl
  have HT := Lib.hid ht; clear ht
  obtain ⟨t, htt⟩ : ∃ t, checkS root first l = t := ⟨_, rfl⟩
  have HTT := Lib.hid htt; clear htt
  obtain ⟨a, b, er⟩ := t
  go_enter Try.func6, Try.ntmps6
  go_wp2_with fail
  refine (few20_walk _ l _ HS.out).mono ?_
  rintro e w1 ⟨rfl, hb1⟩
  rw [H1.out]
  go_wp2_with fail
  refine (ccheck_walk root first _ l _ (HS.out.below hb1 (Nat.le_refl _)) HL.out (fun j x hx => ⟨(HT.out j x hx).1, (HT.out j x hx).2.2.2⟩)).mono ?_
  rintro e w2 ⟨he, hb2⟩
  unfold CheckEnd at he
  rw [HTT.out] at he
  subst he
  have HB2 := Lib.hid (bt hb1 hb2)
  clear hb1 hb2
  by_cases her : er = 0
  rotate_left
  · go_wp2_with fail
    refine (alive21 _).mono ?_
    rintro e w3 ⟨rfl, hb3⟩
    go_wp2_with fail
    go_ret
    exact ⟨rfl, bt HB2.out hb3⟩
  subst her
  obtain ⟨g1, g2, g3⟩ := checkS_ok (root := root) (first := first) (l := l) (by rw [HTT.out])
  have HRR : Hid (RightRow root first l) := Lib.hid ⟨g1, g2⟩
  have hC : a = first + (closes (l.map Sld.r) : Int) := by rw [HTT.out] at g3; exact congrArg Prod.fst g3
  have f0 := g1.first0
  have f1 := g1.first1
  obtain ⟨C, hCC⟩ : ∃ C, closes (l.map Sld.r) = C := ⟨_, rfl⟩
  rw [hCC] at hC
  have hCn : C ≤ n := by rw [← hCC, HN.out]; have := closes_le (l.map Sld.r); rw [List.length_map] at this; exact this
  have HAL : Hid ((allS l n).length = C ∧ ∀ (i : Nat) (y : Rcp), (allS l n)[i]? = some y → ∃ (k : Nat) (x : Sld), l[k]? = some x ∧ x.r.kind = 1 ∧ y = rcpAt l k x ∧ closes ((l.map Sld.r).take k) = i) := Lib.hid (by
    have := HRR.out.all HL.out n (by rw [HN.out]; exact Nat.le_refl _)
    rw [show (l.map Sld.r).take n = l.map Sld.r from List.take_of_length_le (by rw [List.length_map, HN.out]; exact Nat.le_refl _), hCC] at this
    exact this)
  have a0' : 0 ≤ a := by omega
  have a1' : a ≤ 4296015871 := by omega
  have HCA := Lib.hid hC
  clear g1 g2 g3 hCC hC
  go_wp2_with fail
  refine (all21_walk _ l _ (HS.out.below HB2.out (Nat.le_refl _)) HL.out HT.out).mono ?_
  rintro e w3 ⟨vo, rfl, hown, hb3⟩
  rw [← HN.out, HAL.out.1] at hown
  obtain ⟨q, d, rfl⟩ := own_shape hown
  have HO := Lib.hid hown
  have HB3 := Lib.hid (bt HB2.out hb3)
  clear hown hb3
  go_wp2_with fail
  go_loopw [32] (fun i wr => ∃ k : Nat, k ≤ C ∧ i = .int .i64 k ∧ Below w3.heap.size w3 wr) (fun i _ => C - (intOf i).toNat)
  case atStart => exact ⟨0, by omega, rfl, Below.refl _ _⟩
  case round =>
    obtain ⟨k, hk, rfl, hbel⟩ := hrel
    have HBR := Lib.hid (HB3.out.trans (hbel.mono HB3.out.size))
    by_cases hlt : k < C
    · have hlt' : (k : Int) < C := by omega
      obtain ⟨y, hy⟩ : ∃ y, (allS l n)[k]? = some y := ⟨_, List.getElem?_eq_getElem (by rw [HAL.out.1]; exact hlt)⟩
      obtain ⟨k2, x, hx, hkind, hyx, hck⟩ := HAL.out.2 k y hy
      obtain ⟨g, cap, z, hq, hcap, hgb, hblk⟩ := own_split HO.out (by omega)
      injection hq with hq1 _ hq2
      subst hq1 hq2
      have hgw : g < w3.heap.size := hblk.lt
      have hcat : ∀ (i : Nat) (u : Value), y.cells[i]? = some u → wr.cell? ⟨g, k * 11 + i, none⟩ = some u := fun i u hu => by
        rw [hbel.cell (by show g < _; exact hgw)]
        refine hblk.cell ?_
        have h1 := flatR_at _ k y hy i u hu
        rw [List.getElem?_append_left (List.getElem?_eq_some_iff.1 h1).1]
        exact h1
      have d0 : wr.cell? ⟨g, k * 11, none⟩ = some (.int .i64 y.seq) := hcat 0 _ rfl
      have d1 := hcat 1 _ rfl
      have d2 := hcat 2 _ rfl
      have d3 := hcat 3 _ rfl
      have d4 := hcat 4 _ rfl
      have d5 := hcat 5 _ rfl
      have d6 := hcat 6 _ rfl
      have d7 := hcat 7 _ rfl
      have d8 := hcat 8 _ rfl
      have d9 := hcat 9 _ rfl
      have dA := hcat 10 _ rfl
      have hchk : rchkS root first y = 0 := by rw [hyx]; exact HRR.out.chk hx hkind HL.out
      have hof : ofS l y = true := by rw [hyx]; exact ofS_at (HRR.out.make hx hkind HL.out)
      have hep : y.r.epoch = first + (k : Int) := by
        rw [hyx]
        have := (HRR.out.ok.epochs k2 x.r (map_at hx)).2.1
        rw [hck] at this
        exact this
      have htm : y.r.root.size ≤ 1048576 ∧ y.r.name.size ≤ 1048576 ∧ Fits y.r.epoch ∧ Fits y.seq := by
        rw [hyx]
        have := HT.out k2 x hx
        have hk2 := (List.getElem?_eq_some_iff.1 hx).1
        have := HL.out
        exact ⟨(HT.out k2 x hx).2.1, (HT.out k2 x hx).1, (HT.out k2 x hx).2.2.2, by show Fits (k2 : Int); unfold Fits; omega⟩
      have HCHK := Lib.hid hchk
      have HOF := Lib.hid hof
      have HEP := Lib.hid hep
      have HTM := Lib.hid htm
      clear hcat hy hx hkind hyx hck hblk hchk hof hep htm
      go_wp2_with (first
        | ((with_reducible refine wpList_alloc_new 48 Rcp.zero.cells zeroRcp (some 12) ?hgd ?ho ?hd ?_); (case hgd => rfl); (case ho => rfl); (case hd => rfl); (intro b5 w5 l5 B5 e5 z5))
        | ((with_reducible refine wpList_store_new 48 (.tmp 12) (.tmp 36) b5 Rcp.zero.cells y.cells 48 B5 rfl rsizeRcp (Rcp.cells_one _) ?hgd ?ho ?hx ?hy ?_); (case hgd => rfl); (case ho => rfl); (case hx => rfl); (case hy => rfl); (intro w6 B6 o6); (have R6 := Lib.hid (RcpAt.blk B6)); (have hb6 := o6.below (e5.mono l5) l5); (obtain ⟨a0, a1, a2, a3, a4, a5, a6, a7, a8, a9, aA⟩ := R6.out.cells_))
        | fail)
      clear a0 a1 a2 a3 a4 a5 a6 a7 a8 a9 aA d0 d1 d2 d3 d4 d5 d6 d7 d8 d9 dA
      have HBR6 := Lib.hid (HBR.out.trans (hb6.mono HBR.out.size))
      have hbel6 := hbel.trans (hb6.mono hbel.size)
      refine (rcheck21_walk root first y _ HTM.out.1 HTM.out.2.1 HTM.out.2.2.1 HTM.out.2.2.2).mono ?_
      rintro e w7 ⟨rfl, hb7⟩
      rw [HCHK.out]
      have R7 := Lib.hid (R6.out.below hb7 R6.out.lt)
      have HBR7 := Lib.hid (HBR6.out.trans (hb7.mono HBR6.out.size))
      have hbel7 := hbel6.trans (hb7.mono hbel6.size)
      obtain ⟨a0, a1, a2, a3, a4, a5, a6, a7, a8, a9, aA⟩ := R7.out.cells_
      clear hb7 hb6 hbel6
      go_wp2_with fail
      clear a0 a1 a2 a3 a4 a5 a6 a7 a8 a9 aA
      refine (of21_walk _ l y _ (HS.out.below HBR7.out (Nat.le_refl _)) HL.out HT.out).mono ?_
      rintro e w8 ⟨rfl, hb8⟩
      rw [HOF.out]
      obtain ⟨_, _, a2, _, _, _, _, _, _, _, _⟩ := (R7.out.below hb8 R7.out.lt).cells_
      rw [HEP.out] at a2
      have hbel8 := hbel7.trans (hb8.mono hbel7.size)
      go_wp2_with fail
      go_roundw
      case rel => exact ⟨k + 1, by omega, by go_num, hbel8⟩
      case measure =>
        show C - ((k : Int) + 1).toNat < C - (k : Int).toNat
        omega
    · obtain rfl : k = C := by omega
      have hsub : a - first = (k : Int) := by have := HCA.out; omega
      go_wp2_with fail
      refine (alive21 _).mono ?_
      rintro e w4 ⟨rfl, hb4⟩
      go_wp2_with fail
      go_ret
      exact ⟨rfl, HBR.out.trans (hb4.mono HBR.out.size)⟩

set_option maxRecDepth 100000 in
theorem receiptRight_few (root : ByteArray) (first : Int) (v : Value) (l : List Sld) (w : World) (h : SldRow w v l) (hf : fewS l = false) :
    Calls Try.prog 6 #[.string root, .int .i64 first, v] w fun e w' => e = .returned (.bool true) ∧ Below w.heap.size w w' := by
  have HS := Lib.hid h; clear h
  have H1 := Lib.hid hf; clear hf
  go_enter Try.func6, Try.ntmps6
  go_wp2_with fail
  refine (few20_walk _ l _ HS.out).mono ?_
  rintro e w1 ⟨rfl, hb1⟩
  rw [H1.out]
  go_wp2_with fail
  refine (alive21 _).mono ?_
  rintro e w2 ⟨rfl, hb2⟩
  go_wp2_with fail
  go_ret
  exact ⟨rfl, bt hb1 hb2⟩

theorem receiptRight_law (root : ByteArray) (first : Int) (v : Value) (l : List Sld) (w : World) (hv : SldsIn w v l) :
    Calls Try.prog 6 #[.string root, .int .i64 first, v] w fun e w' => e = .returned (.bool true) ∧ Below w.heap.size w w' := by
  cases hf : fewS l with
  | true =>
    refine receiptRight_walk root first v l w hv.row hf (by have := fewS_len hf; omega) ?_
    intro j y hy
    have := fewS_each hf j y hy
    exact ⟨by omega, by omega, by omega, (hv.fits j y hy).epoch⟩
  | false => exact receiptRight_few root first v l w hv.row hf
end Go.Proofs.Ytmiikdkdccheeaa
