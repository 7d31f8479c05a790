/- Walks of armor.Receipt, armor.Unreceipt and the documents' Unreceipt (chapter 39). -/
import Derived.Test.YtgfaadggalnbgaaGreatDoorArmNf
import Derived.Test.YtgfaadggalnbgaaGreatDoorTakeR
import Derived.Test.YtgfaadggalnbgaaGreatDoorTakeRef3
namespace Go.Proofs.YtgfaadggalnbgaaGreatDoor
set_option linter.unusedSimpArgs false
set_option linter.unusedVariables false
open Go Go.RowKit
set_option linter.unusedVariables false

theorem Txt.isnt {r : ByteArray} {l l' : List UInt8} (h : Txt r l) (e : l ≠ l') : (r.toList == l') = false := by
  rw [h.toList]; simpa using e
/-- The name of a receipt's letters. -/
def kindL : List UInt8 := [114, 101, 99, 101, 105, 112, 116]
/-- The receipt of letters. -/
def unrcp (t : List UInt8) : Option Rcp :=
  match armTake t with
  | none => none
  | some (n, s) => if n = kindL then (match rcpTake s with | some (x, left) => if left = [] then some x else none | none => none) else none
theorem unrcp_none {t : List UInt8} (h : armTake t = none) : unrcp t = none := by unfold unrcp; rw [h]
theorem unrcp_name {t n s : List UInt8} (h : armTake t = some (n, s)) (hn : n ≠ kindL) : unrcp t = none := by unfold unrcp; rw [h]; simp only; rw [if_neg hn]
theorem unrcp_bad {t n s : List UInt8} (h : armTake t = some (n, s)) (hr : rcpTake s = none) : unrcp t = none := by unfold unrcp; rw [h]; simp only; rw [hr]; simp
theorem unrcp_left {t n s l : List UInt8} {x : Rcp} (h : armTake t = some (n, s)) (hr : rcpTake s = some (x, l)) (hl : l ≠ []) : unrcp t = none := by unfold unrcp; rw [h]; simp only; rw [hr]; simp [hl]
theorem unrcp_ok {t n s : List UInt8} {x : Rcp} (h : armTake t = some (n, s)) (hn : n = kindL) (hr : rcpTake s = some (x, [])) : unrcp t = some x := by unfold unrcp; rw [h]; simp only; rw [hr, if_pos hn]; simp
theorem rcpPut_length {x : Rcp} (h : rcpOk x = true) : (rcpPut x).length ≤ 200 := by
  have hr := rcpOk_rec h
  simp only [rcpOk, Bool.and_eq_true, decide_eq_true_eq] at h
  unfold rcpPut
  rw [List.length_append, List.length_append, List.length_append, beBytes_length]
  have h1 := recPut_length hr.1
  have e1 : x.was.data.toList.length = x.was.size := rfl
  have e2 : x.tag.data.toList.length = x.tag.size := rfl
  omega
theorem armOk_kind {s : List UInt8} (h : s.length ≤ 4000) : armOk kindL s = true := by
  unfold armOk
  rw [show nameOk kindL = true by decide]
  simp [h]
theorem unrcp_put {x : Rcp} (h : rcpOk x = true) : unrcp (armPut kindL (rcpPut x)) = some x := by
  have hl := rcpPut_length h
  refine unrcp_ok (armTake_put (armOk_kind (by omega)) (by decide)) rfl ?_
  have := rcpTake_put h []
  rwa [List.append_nil] at this

set_option maxHeartbeats 2000000 in
theorem arcp_walk (x : Rcp) (w : World) (hroot : x.r.root.size ≤ 1048576) (hname : x.r.name.size ≤ 1048576) (hf : Fits x.r.epoch) (hs : Fits x.seq) :
    Calls Tryz.prog 6 #[x.v] w fun e w' => Ends (rcpOk x = true) (armPut kindL (rcpPut x)) 2 e ∧ Below w.heap.size w w' := by
  go_enter Tryz.func6, Tryz.ntmps6
  go_wp2_with (((with_reducible refine wpList_box_new 25 (.tmp 0) x.cells (some 1) ?hgd ?ho ?hd ?hx ?_); (case hgd => rfl); (case ho => rfl); (case hd => rfl); (case hx => rfl); (intro b w0 l0 B0 e0 z0; have R0 := Lib.hid (RcpAt.blk B0); obtain ⟨a0, a1, a2, a3, a4, a5, a6, a7, a8, a9, aA⟩ := R0.out.cells_)))
  clear a0 a1 a2 a3 a4 a5 a6 a7 a8 a9 aA
  refine (rcpput_walk x _ hroot hname hf hs).mono ?_
  rintro e w1 ⟨he, hb1⟩
  have HW1 := Lib.hid ((e0.mono l0).trans (hb1.mono (by have := e0.size; omega)))
  clear R0 B0 e0 l0 z0 hb1
  rcases he with ⟨hok, r, rfl, tr⟩ | ⟨hno, rfl⟩
  · have hl := rcpPut_length hok
    have HR := Lib.hid (armOk_kind (s := r.data.toList) (by rw [show r.data.toList = _ from tr]; omega))
    have hr : r.size ≤ 1073741824 := by rw [tr.size]; omega
    have TR := Lib.hid tr
    have HOK := Lib.hid hok
    clear tr hl hok
    go_wp2_with fail
    refine (aput_walk ⟨#[114, 101, 99, 101, 105, 112, 116]⟩ r _ (by decide) hr).mono ?_
    rintro e w2 ⟨he, hb2⟩
    obtain ⟨q, rfl, tq⟩ := APutEnd.nf he HR.out
    have HW2 := Lib.hid (HW1.out.trans (hb2.mono HW1.out.size))
    clear he hb2
    go_wp2_with fail
    go_ret2
    refine ⟨.inl ⟨HOK.out, q, rfl, tq.cast ?_⟩, HW2.out⟩
    show armPut kindL r.data.toList = _
    rw [show r.data.toList = _ from TR.out]
  · go_wp2_with fail
    go_ret2
    exact ⟨.inr ⟨hno, rfl⟩, HW1.out⟩

/-- How armor.Unreceipt ends. -/
def AUnEnd (t : List UInt8) (e : Ending) : Prop := (∃ x, unrcp t = some x ∧ e = .returned (.tuple #[x.v, .int .i64 0])) ∨ (unrcp t = none ∧ e = .returned (.tuple #[Rcp.zero.v, .int .i64 3]))
/-- How the documents' Unreceipt ends. -/
def RUnEnd (t : List UInt8) (e : Ending) : Prop := (∃ x, unrcp t = some x ∧ e = .returned (.tuple #[x.v, .bool true])) ∨ (unrcp t = none ∧ e = .returned (.tuple #[Rcp.zero.v, .bool false]))

set_option maxHeartbeats 4000000 in
theorem aunrcp_walk (t : ByteArray) (w : World) (ht : t.size ≤ 16777216) :
    Calls Tryz.prog 9 #[.string t] w fun e w' => AUnEnd t.data.toList e ∧ Below w.heap.size w w' := by
  go_enter Tryz.func9, Tryz.ntmps9
  go_wp2_with (((with_reducible refine wpList_alloc_new 25 Rcp.zero.cells zeroRcp (some 2) ?hgd ?ho ?hd ?_); (case hgd => rfl); (case ho => rfl); (case hd => rfl); (intro b2 w2 l2 B2 e2 z2)))
  have HB2 := Lib.hid B2
  have HW2 := Lib.hid (e2.mono l2)
  clear B2 e2 z2
  refine (atake_walk t _ ht).mono ?_
  rintro e w3 ⟨he, hb3⟩
  have HB3 := Lib.hid (HB2.out.below hb3 HB2.out.lt)
  have HW3 := Lib.hid (HW2.out.trans (hb3.mono HW2.out.size))
  clear hb3 HB2 HW2
  obtain ⟨a, b, f, rfl, hf⟩ : ∃ a b f, e = .returned (.tuple #[.string a, .string b, .int .i64 f]) ∧ ((f = 0 ∧ armTake t.data.toList = some (a.data.toList, b.data.toList)) ∨ (f = 3 ∧ armTake t.data.toList = none ∧ b = ⟨#[]⟩)) := by
    rcases he with ⟨n, s, h1, a, b, h2, ta, tb⟩ | ⟨h1, h2⟩
    · exact ⟨a, b, _, h2, .inl ⟨rfl, by rw [h1, show a.data.toList = _ from ta, show b.data.toList = _ from tb]⟩⟩
    · exact ⟨_, _, _, h2, .inr ⟨rfl, h1, rfl⟩⟩
  clear he
  have hbz : b.size ≤ 1073741824 := by
    rcases hf with ⟨_, h⟩ | ⟨_, _, h⟩
    · have := (armOk_size (armTake_back h).1).2
      have e : b.data.toList.length = b.size := rfl
      omega
    · rw [h]; decide
  have HF := Lib.hid hf
  clear hf
  rcases HF.out with ⟨rfl, ht1⟩ | ⟨rfl, ht1, _⟩
  rotate_left
  · have HN := Lib.hid (unrcp_none ht1)
    clear ht1
    go_wp2_with (((with_reducible refine wpList_store_new 25 (.tmp 2) (.tmp 17) b2 Rcp.zero.cells Rcp.zero.cells 25 HB3.out rfl rsizeRcp (Rcp.cells_one _) ?hgd ?ho ?hx ?hy ?_); (case hgd => rfl); (case ho => rfl); (case hx => rfl); (case hy => rfl); (intro w9 B9 o9)))
    (try simp only [Exit.inBlock, Exit.then]); refine bodyPost_ret (results_cell_rcp rfl _ _ (RcpAt.blk B9) rfl) rfl ⟨.inr ⟨HN.out, rfl⟩, o9.below HW3.out l2⟩
  have HT := Lib.hid ht1
  clear ht1
  go_wp2_with fail
  refine (rcptake_walk b _ hbz).mono ?_
  rintro e w4 ⟨he, hb4⟩
  have HB4 := Lib.hid (HB3.out.below hb4 HB3.out.lt)
  have HW4 := Lib.hid (HW3.out.trans (hb4.mono HW3.out.size))
  clear hb4 HB3 HW3 hbz
  obtain ⟨X, y, g, rfl, hX⟩ : ∃ X y g, e = .returned (.tuple #[X.v, .string y, .int .i64 g]) ∧ ((g = 0 ∧ rcpTake b.data.toList = some (X, y.data.toList)) ∨ (g = 3 ∧ rcpTake b.data.toList = none)) := by
    rcases he with ⟨X, left, y, h1, h2, h3⟩ | ⟨h1, h2⟩
    · exact ⟨X, y, _, h2, .inl ⟨rfl, by rw [h1, show y.data.toList = _ from h3]⟩⟩
    · exact ⟨_, _, _, h2, .inr ⟨rfl, h1⟩⟩
  clear he
  have HX := Lib.hid hX
  clear hX
  by_cases hk : a.data.toList = kindL
  · have k1 : (a.toList == [114, 101, 99, 101, 105, 112, 116]) = true := (Txt.self a).is hk
    have HK := Lib.hid hk
    clear hk
    rcases HX.out with ⟨rfl, hr⟩ | ⟨rfl, hr⟩
    · by_cases hy : y.data.toList = []
      · have k2 : (y.toList == []) = true := (Txt.self y).is hy
        have HN := Lib.hid (unrcp_ok HT.out HK.out (by rw [hr, hy]))
        clear hr hy
        go_wp2_with (first
          | ((with_reducible refine wpList_alloc_new 25 Rcp.zero.cells zeroRcp (some 7) ?hgd ?ho ?hd ?_); (case hgd => rfl); (case ho => rfl); (case hd => rfl); (intro b7 w7 l7 B7 e7 z7))
          | ((with_reducible refine wpList_store_new 25 (.tmp 7) (.tmp 22) b7 Rcp.zero.cells X.cells 25 B7 rfl rsizeRcp (Rcp.cells_one _) ?hgd ?ho ?hx ?hy ?_); (case hgd => rfl); (case ho => rfl); (case hx => rfl); (case hy => rfl); (intro w8 B8 o8); have hb8 := o8.below (e7.mono l7) l7; have HB8 := Lib.hid (HB4.out.below hb8 HB4.out.lt); have HW8 := Lib.hid (HW4.out.trans (hb8.mono HW4.out.size)); have R8 := RcpAt.blk B8; obtain ⟨a0, a1, a2, a3, a4, a5, a6, a7, a8, a9, aA⟩ := R8.cells_)
          | ((with_reducible refine wpList_store_new 25 (.tmp 2) (.tmp 36) b2 Rcp.zero.cells X.cells 25 HB8.out rfl rsizeRcp (Rcp.cells_one _) ?hgd ?ho ?hx ?hy ?_); (case hgd => rfl); (case ho => rfl); (case hx => rfl); (case hy => rfl); (intro w9 B9 o9))
          | fail)
        (try simp only [Exit.inBlock, Exit.then]); refine bodyPost_ret (results_cell_rcp rfl _ _ (RcpAt.blk B9) rfl) rfl ⟨.inl ⟨X, HN.out, rfl⟩, o9.below HW8.out l2⟩
      · have k2 : (y.toList == []) = false := (Txt.self y).isnt hy
        have HN := Lib.hid (unrcp_left HT.out hr hy)
        clear hr hy
        go_wp2_with (first
          | ((with_reducible refine wpList_alloc_new 25 Rcp.zero.cells zeroRcp (some 7) ?hgd ?ho ?hd ?_); (case hgd => rfl); (case ho => rfl); (case hd => rfl); (intro b7 w7 l7 B7 e7 z7))
          | ((with_reducible refine wpList_store_new 25 (.tmp 7) (.tmp 22) b7 Rcp.zero.cells X.cells 25 B7 rfl rsizeRcp (Rcp.cells_one _) ?hgd ?ho ?hx ?hy ?_); (case hgd => rfl); (case ho => rfl); (case hx => rfl); (case hy => rfl); (intro w8 B8 o8); have hb8 := o8.below (e7.mono l7) l7; have HB8 := Lib.hid (HB4.out.below hb8 HB4.out.lt); have HW8 := Lib.hid (HW4.out.trans (hb8.mono HW4.out.size)))
          | ((with_reducible refine wpList_store_new 25 (.tmp 2) (.tmp 35) b2 Rcp.zero.cells Rcp.zero.cells 25 HB8.out rfl rsizeRcp (Rcp.cells_one _) ?hgd ?ho ?hx ?hy ?_); (case hgd => rfl); (case ho => rfl); (case hx => rfl); (case hy => rfl); (intro w9 B9 o9))
          | fail)
        (try simp only [Exit.inBlock, Exit.then]); refine bodyPost_ret (results_cell_rcp rfl _ _ (RcpAt.blk B9) rfl) rfl ⟨.inr ⟨HN.out, rfl⟩, o9.below HW8.out l2⟩
    · have HN := Lib.hid (unrcp_bad HT.out hr)
      clear hr
      go_wp2_with (first
        | ((with_reducible refine wpList_alloc_new 25 Rcp.zero.cells zeroRcp (some 7) ?hgd ?ho ?hd ?_); (case hgd => rfl); (case ho => rfl); (case hd => rfl); (intro b7 w7 l7 B7 e7 z7))
        | ((with_reducible refine wpList_store_new 25 (.tmp 7) (.tmp 22) b7 Rcp.zero.cells X.cells 25 B7 rfl rsizeRcp (Rcp.cells_one _) ?hgd ?ho ?hx ?hy ?_); (case hgd => rfl); (case ho => rfl); (case hx => rfl); (case hy => rfl); (intro w8 B8 o8); have hb8 := o8.below (e7.mono l7) l7; have HB8 := Lib.hid (HB4.out.below hb8 HB4.out.lt); have HW8 := Lib.hid (HW4.out.trans (hb8.mono HW4.out.size)))
        | ((with_reducible refine wpList_store_new 25 (.tmp 2) (.tmp 35) b2 Rcp.zero.cells Rcp.zero.cells 25 HB8.out rfl rsizeRcp (Rcp.cells_one _) ?hgd ?ho ?hx ?hy ?_); (case hgd => rfl); (case ho => rfl); (case hx => rfl); (case hy => rfl); (intro w9 B9 o9))
        | fail)
      (try simp only [Exit.inBlock, Exit.then]); refine bodyPost_ret (results_cell_rcp rfl _ _ (RcpAt.blk B9) rfl) rfl ⟨.inr ⟨HN.out, rfl⟩, o9.below HW8.out l2⟩
  · have k1 : (a.toList == [114, 101, 99, 101, 105, 112, 116]) = false := (Txt.self a).isnt hk
    have HN := Lib.hid (unrcp_name HT.out hk)
    clear hk
    go_wp2_with (first
      | ((with_reducible refine wpList_alloc_new 25 Rcp.zero.cells zeroRcp (some 7) ?hgd ?ho ?hd ?_); (case hgd => rfl); (case ho => rfl); (case hd => rfl); (intro b7 w7 l7 B7 e7 z7))
      | ((with_reducible refine wpList_store_new 25 (.tmp 7) (.tmp 22) b7 Rcp.zero.cells X.cells 25 B7 rfl rsizeRcp (Rcp.cells_one _) ?hgd ?ho ?hx ?hy ?_); (case hgd => rfl); (case ho => rfl); (case hx => rfl); (case hy => rfl); (intro w8 B8 o8); have hb8 := o8.below (e7.mono l7) l7; have HB8 := Lib.hid (HB4.out.below hb8 HB4.out.lt); have HW8 := Lib.hid (HW4.out.trans (hb8.mono HW4.out.size)))
      | ((with_reducible refine wpList_store_new 25 (.tmp 2) (.tmp 35) b2 Rcp.zero.cells Rcp.zero.cells 25 HB8.out rfl rsizeRcp (Rcp.cells_one _) ?hgd ?ho ?hx ?hy ?_); (case hgd => rfl); (case ho => rfl); (case hx => rfl); (case hy => rfl); (intro w9 B9 o9))
      | fail)
    (try simp only [Exit.inBlock, Exit.then]); refine bodyPost_ret (results_cell_rcp rfl _ _ (RcpAt.blk B9) rfl) rfl ⟨.inr ⟨HN.out, rfl⟩, o9.below HW8.out l2⟩
set_option maxHeartbeats 4000000 in
theorem runrcp_walk (t : ByteArray) (w : World) (ht : t.size ≤ 16777216) :
    Calls Tryz.prog 10 #[.string t] w fun e w' => RUnEnd t.data.toList e ∧ Below w.heap.size w w' := by
  go_enter Tryz.func10, Tryz.ntmps10
  go_wp2_with (((with_reducible refine wpList_alloc_new 25 Rcp.zero.cells zeroRcp (some 2) ?hgd ?ho ?hd ?_); (case hgd => rfl); (case ho => rfl); (case hd => rfl); (intro b2 w2 l2 B2 e2 z2)))
  have HB2 := Lib.hid B2
  have HW2 := Lib.hid (e2.mono l2)
  clear B2 e2 z2
  refine (rarmtake_walk t _ ht).mono ?_
  rintro e w3 ⟨he, hb3⟩
  have HB3 := Lib.hid (HB2.out.below hb3 HB2.out.lt)
  have HW3 := Lib.hid (HW2.out.trans (hb3.mono HW2.out.size))
  clear hb3 HB2 HW2
  obtain ⟨a, b, f, rfl, hf⟩ : ∃ a b f, e = .returned (.tuple #[.string a, .string b, .bool f]) ∧ ((f = true ∧ armTake t.data.toList = some (a.data.toList, b.data.toList)) ∨ (f = false ∧ armTake t.data.toList = none ∧ b = ⟨#[]⟩)) := by
    rcases he with ⟨n, s, h1, a, b, h2, ta, tb⟩ | ⟨h1, h2⟩
    · exact ⟨a, b, _, h2, .inl ⟨rfl, by rw [h1, show a.data.toList = _ from ta, show b.data.toList = _ from tb]⟩⟩
    · exact ⟨_, _, _, h2, .inr ⟨rfl, h1, rfl⟩⟩
  clear he
  have hbz : b.size ≤ 1073741824 := by
    rcases hf with ⟨_, h⟩ | ⟨_, _, h⟩
    · have := (armOk_size (armTake_back h).1).2
      have e : b.data.toList.length = b.size := rfl
      omega
    · rw [h]; decide
  have HF := Lib.hid hf
  clear hf
  go_wp2_with fail
  refine (rrcptake_walk b _ hbz).mono ?_
  rintro e w4 ⟨he, hb4⟩
  have HB4 := Lib.hid (HB3.out.below hb4 HB3.out.lt)
  have HW4 := Lib.hid (HW3.out.trans (hb4.mono HW3.out.size))
  clear hb4 HB3 HW3 hbz
  obtain ⟨X, y, g, rfl, hX⟩ : ∃ X y g, e = .returned (.tuple #[X.v, .string y, .bool g]) ∧ ((g = true ∧ rcpTake b.data.toList = some (X, y.data.toList)) ∨ (g = false ∧ rcpTake b.data.toList = none)) := by
    rcases he with ⟨X, left, y, h1, h2, h3⟩ | ⟨h1, h2⟩
    · exact ⟨X, y, _, h2, .inl ⟨rfl, by rw [h1, show y.data.toList = _ from h3]⟩⟩
    · exact ⟨_, _, _, h2, .inr ⟨rfl, h1⟩⟩
  clear he
  have HX := Lib.hid hX
  clear hX
  rcases HF.out with ⟨rfl, ht1⟩ | ⟨rfl, ht1, _⟩
  rotate_left
  · have HN := Lib.hid (unrcp_none ht1)
    clear ht1
    go_wp2_with (first
      | ((with_reducible refine wpList_alloc_new 25 Rcp.zero.cells zeroRcp (some 7) ?hgd ?ho ?hd ?_); (case hgd => rfl); (case ho => rfl); (case hd => rfl); (intro b7 w7 l7 B7 e7 z7))
      | ((with_reducible refine wpList_store_new 25 (.tmp 7) (.tmp 19) b7 Rcp.zero.cells X.cells 25 B7 rfl rsizeRcp (Rcp.cells_one _) ?hgd ?ho ?hx ?hy ?_); (case hgd => rfl); (case ho => rfl); (case hx => rfl); (case hy => rfl); (intro w8 B8 o8); have hb8 := o8.below (e7.mono l7) l7; have HB8 := Lib.hid (HB4.out.below hb8 HB4.out.lt); have HW8 := Lib.hid (HW4.out.trans (hb8.mono HW4.out.size)))
      | ((with_reducible refine wpList_store_new 25 (.tmp 2) (.tmp 36) b2 Rcp.zero.cells Rcp.zero.cells 25 HB8.out rfl rsizeRcp (Rcp.cells_one _) ?hgd ?ho ?hx ?hy ?_); (case hgd => rfl); (case ho => rfl); (case hx => rfl); (case hy => rfl); (intro w9 B9 o9))
      | fail)
    (try simp only [Exit.inBlock, Exit.then]); refine bodyPost_ret (results_cell_rcp rfl _ _ (RcpAt.blk B9) rfl) rfl ⟨.inr ⟨HN.out, rfl⟩, o9.below HW8.out l2⟩
  have HT := Lib.hid ht1
  clear ht1
  by_cases hk : a.data.toList = kindL
  · have k1 : (a.toList == [114, 101, 99, 101, 105, 112, 116]) = true := (Txt.self a).is hk
    have HK := Lib.hid hk
    clear hk
    rcases HX.out with ⟨rfl, hr⟩ | ⟨rfl, hr⟩
    · by_cases hy : y.data.toList = []
      · have k2 : (y.toList == []) = true := (Txt.self y).is hy
        have HN := Lib.hid (unrcp_ok HT.out HK.out (by rw [hr, hy]))
        clear hr hy
        go_wp2_with (first
          | ((with_reducible refine wpList_alloc_new 25 Rcp.zero.cells zeroRcp (some 7) ?hgd ?ho ?hd ?_); (case hgd => rfl); (case ho => rfl); (case hd => rfl); (intro b7 w7 l7 B7 e7 z7))
          | ((with_reducible refine wpList_store_new 25 (.tmp 7) (.tmp 19) b7 Rcp.zero.cells X.cells 25 B7 rfl rsizeRcp (Rcp.cells_one _) ?hgd ?ho ?hx ?hy ?_); (case hgd => rfl); (case ho => rfl); (case hx => rfl); (case hy => rfl); (intro w8 B8 o8); have hb8 := o8.below (e7.mono l7) l7; have HB8 := Lib.hid (HB4.out.below hb8 HB4.out.lt); have HW8 := Lib.hid (HW4.out.trans (hb8.mono HW4.out.size)); have R8 := RcpAt.blk B8; obtain ⟨a0, a1, a2, a3, a4, a5, a6, a7, a8, a9, aA⟩ := R8.cells_)
          | ((with_reducible refine wpList_store_new 25 (.tmp 2) (.tmp 37) b2 Rcp.zero.cells X.cells 25 HB8.out rfl rsizeRcp (Rcp.cells_one _) ?hgd ?ho ?hx ?hy ?_); (case hgd => rfl); (case ho => rfl); (case hx => rfl); (case hy => rfl); (intro w9 B9 o9))
          | fail)
        (try simp only [Exit.inBlock, Exit.then]); refine bodyPost_ret (results_cell_rcp rfl _ _ (RcpAt.blk B9) rfl) rfl ⟨.inl ⟨X, HN.out, rfl⟩, o9.below HW8.out l2⟩
      · have k2 : (y.toList == []) = false := (Txt.self y).isnt hy
        have HN := Lib.hid (unrcp_left HT.out hr hy)
        clear hr hy
        go_wp2_with (first
          | ((with_reducible refine wpList_alloc_new 25 Rcp.zero.cells zeroRcp (some 7) ?hgd ?ho ?hd ?_); (case hgd => rfl); (case ho => rfl); (case hd => rfl); (intro b7 w7 l7 B7 e7 z7))
          | ((with_reducible refine wpList_store_new 25 (.tmp 7) (.tmp 19) b7 Rcp.zero.cells X.cells 25 B7 rfl rsizeRcp (Rcp.cells_one _) ?hgd ?ho ?hx ?hy ?_); (case hgd => rfl); (case ho => rfl); (case hx => rfl); (case hy => rfl); (intro w8 B8 o8); have hb8 := o8.below (e7.mono l7) l7; have HB8 := Lib.hid (HB4.out.below hb8 HB4.out.lt); have HW8 := Lib.hid (HW4.out.trans (hb8.mono HW4.out.size)))
          | ((with_reducible refine wpList_store_new 25 (.tmp 2) (.tmp 36) b2 Rcp.zero.cells Rcp.zero.cells 25 HB8.out rfl rsizeRcp (Rcp.cells_one _) ?hgd ?ho ?hx ?hy ?_); (case hgd => rfl); (case ho => rfl); (case hx => rfl); (case hy => rfl); (intro w9 B9 o9))
          | fail)
        (try simp only [Exit.inBlock, Exit.then]); refine bodyPost_ret (results_cell_rcp rfl _ _ (RcpAt.blk B9) rfl) rfl ⟨.inr ⟨HN.out, rfl⟩, o9.below HW8.out l2⟩
    · have HN := Lib.hid (unrcp_bad HT.out hr)
      clear hr
      go_wp2_with (first
        | ((with_reducible refine wpList_alloc_new 25 Rcp.zero.cells zeroRcp (some 7) ?hgd ?ho ?hd ?_); (case hgd => rfl); (case ho => rfl); (case hd => rfl); (intro b7 w7 l7 B7 e7 z7))
        | ((with_reducible refine wpList_store_new 25 (.tmp 7) (.tmp 19) b7 Rcp.zero.cells X.cells 25 B7 rfl rsizeRcp (Rcp.cells_one _) ?hgd ?ho ?hx ?hy ?_); (case hgd => rfl); (case ho => rfl); (case hx => rfl); (case hy => rfl); (intro w8 B8 o8); have hb8 := o8.below (e7.mono l7) l7; have HB8 := Lib.hid (HB4.out.below hb8 HB4.out.lt); have HW8 := Lib.hid (HW4.out.trans (hb8.mono HW4.out.size)))
        | ((with_reducible refine wpList_store_new 25 (.tmp 2) (.tmp 36) b2 Rcp.zero.cells Rcp.zero.cells 25 HB8.out rfl rsizeRcp (Rcp.cells_one _) ?hgd ?ho ?hx ?hy ?_); (case hgd => rfl); (case ho => rfl); (case hx => rfl); (case hy => rfl); (intro w9 B9 o9))
        | fail)
      (try simp only [Exit.inBlock, Exit.then]); refine bodyPost_ret (results_cell_rcp rfl _ _ (RcpAt.blk B9) rfl) rfl ⟨.inr ⟨HN.out, rfl⟩, o9.below HW8.out l2⟩
  · have k1 : (a.toList == [114, 101, 99, 101, 105, 112, 116]) = false := (Txt.self a).isnt hk
    have HN := Lib.hid (unrcp_name HT.out hk)
    clear hk
    go_wp2_with (first
      | ((with_reducible refine wpList_alloc_new 25 Rcp.zero.cells zeroRcp (some 7) ?hgd ?ho ?hd ?_); (case hgd => rfl); (case ho => rfl); (case hd => rfl); (intro b7 w7 l7 B7 e7 z7))
      | ((with_reducible refine wpList_store_new 25 (.tmp 7) (.tmp 19) b7 Rcp.zero.cells X.cells 25 B7 rfl rsizeRcp (Rcp.cells_one _) ?hgd ?ho ?hx ?hy ?_); (case hgd => rfl); (case ho => rfl); (case hx => rfl); (case hy => rfl); (intro w8 B8 o8); have hb8 := o8.below (e7.mono l7) l7; have HB8 := Lib.hid (HB4.out.below hb8 HB4.out.lt); have HW8 := Lib.hid (HW4.out.trans (hb8.mono HW4.out.size)))
      | ((with_reducible refine wpList_store_new 25 (.tmp 2) (.tmp 36) b2 Rcp.zero.cells Rcp.zero.cells 25 HB8.out rfl rsizeRcp (Rcp.cells_one _) ?hgd ?ho ?hx ?hy ?_); (case hgd => rfl); (case ho => rfl); (case hx => rfl); (case hy => rfl); (intro w9 B9 o9))
      | fail)
    (try simp only [Exit.inBlock, Exit.then]); refine bodyPost_ret (results_cell_rcp rfl _ _ (RcpAt.blk B9) rfl) rfl ⟨.inr ⟨HN.out, rfl⟩, o9.below HW8.out l2⟩
end Go.Proofs.YtgfaadggalnbgaaGreatDoor
