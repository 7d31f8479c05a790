/- Walks of receipt.Put, receipt.Take (chapter 21). -/
import Derived.Test.YtidekfbgjghcjaaGreatTakeW
namespace Go.Proofs.YtidekfbgjghcjaaGreat
set_option linter.unusedSimpArgs false
set_option linter.unusedVariables false
open Go Go.RowKit

set_option maxRecDepth 100000 in
set_option maxHeartbeats 4000000 in
theorem rcpput_walk (x : Rcp) (w : World) (hroot : x.r.root.size ≤ 1048576) (hname : x.r.name.size ≤ 1048576) (hf : Fits x.r.epoch) (hs : Fits x.seq) :
    Calls Tryz.prog 112 #[x.v] w fun e w' => Ends (rcpOk x = true) (rcpPut x) 2 e ∧ Below w.heap.size w w' := by
  go_enter Tryz.func112, Tryz.ntmps112
  go_wp2_with ((with_reducible refine wpList_box_new 37 (.tmp 0) x.cells (some 1) ?hgd ?ho ?hd ?hx ?_); (case hgd | ho | hd | hx => rfl); (intro b w0 l0 B0 e0 z0; have R0 := Lib.hid (RcpAt.blk B0); obtain ⟨a0, a1, a2, a3, a4, a5, a6, a7, a8, a9, aA⟩ := R0.out.cells_))
  clear a0 a1 a2 a3 a4 a5 a6 a7 a8 a9 aA
  refine (may21_walk x _ (by omega) hf hs).mono ?_
  rintro e w1 ⟨rfl, hb1⟩
  have R1 := Lib.hid (R0.out.below hb1 z0)
  have HW1 := Lib.hid ((e0.mono l0).trans (hb1.mono (by have := e0.size; omega)))
  clear R0 B0 e0 l0 z0 hb1
  cases hok : rcpOk x with
  | false =>
    have HK := Lib.hid hok; clear hok
    go_wp2_with fail
    go_ret2
    exact ⟨.inr ⟨by rw [HK.out]; simp, rfl⟩, HW1.out⟩
  | true =>
    have HK := Lib.hid hok
    have hr := rcpOk_rec hok
    simp only [rcpOk, Bool.and_eq_true, decide_eq_true_eq] at hok
    have hw32 : x.was.size ≤ 32 := by omega
    have ht32 : x.tag.size ≤ 32 := by omega
    have hsq : 0 ≤ x.seq ∧ x.seq ≤ 4294967295 := by omega
    have HS := Lib.hid hsq
    have HR := Lib.hid hr
    clear hok hr hsq
    obtain ⟨a0, a1, a2, a3, a4, a5, a6, a7, a8, a9, aA⟩ := R1.out.cells_
    go_wp2_with fail
    clear a0 a1 a2 a3 a4 a5 a6 a7 a8 a9 aA
    refine (oput4_walk x.seq _ hs).mono ?_
    rintro e w2 ⟨he, hb2⟩
    obtain ⟨q, rfl, tq⟩ := he.yes HS.out
    have sq : q.size ≤ 4 := by rw [tq.size, beBytes_length]; omega
    have R2 := Lib.hid (R1.out.below hb2 R1.out.lt)
    have HW2 := Lib.hid (HW1.out.trans (hb2.mono HW1.out.size))
    clear he hb2 R1 HW1
    obtain ⟨a0, a1, a2, a3, a4, a5, a6, a7, a8, a9, aA⟩ := R2.out.cells_
    go_wp2_with fail
    clear a0 a1 a2 a3 a4 a5 a6 a7 a8 a9 aA
    refine (recput_walk x.r _ hroot hname hf).mono ?_
    rintro e w3 ⟨⟨hrk, p, rfl, tp⟩ | ⟨hno, rfl⟩, hb3⟩
    rotate_left
    · exfalso
      rw [HR.out.1] at hno
      cases hno
    have sp : p.size ≤ 85 := by rw [tp.size]; exact recPut_length hrk
    have R3 := Lib.hid (R2.out.below hb3 R2.out.lt)
    have HW3 := Lib.hid (HW2.out.trans (hb3.mono HW2.out.size))
    clear hb3 R2 HW2 hrk
    obtain ⟨a0, a1, a2, a3, a4, a5, a6, a7, a8, a9, aA⟩ := R3.out.cells_
    go_wp2_with fail
    go_ret2
    refine ⟨.inl ⟨HK.out, _, rfl, ?_⟩, HW3.out⟩
    exact ((tq.append (Txt.self x.was)).append (Txt.self x.tag)).append tp

def RcpTakeEnd (l : List UInt8) (e : Ending) : Prop :=
  (∃ x left y, rcpTake l = some (x, left) ∧ e = .returned (.tuple #[x.v, .string y, .int .i64 0]) ∧ Txt y left) ∨
  (rcpTake l = none ∧ e = .returned (.tuple #[Rcp.zero.v, .string ⟨#[]⟩, .int .i64 3]))
theorem use_one' {T G : Prop} (h : T → G) (t : T) : G := h t
theorem rcpTake_long {s : ByteArray} (h : ¬ s.size < 68) : rcpTake s.data.toList = match recTake (s.data.toList.drop 68) with
  | some (r, left) => if rcpOk ⟨((beNum (s.data.toList.take 4) : Nat) : Int), r, s.extract 4 36, s.extract 36 68⟩ then some (⟨((beNum (s.data.toList.take 4) : Nat) : Int), r, s.extract 4 36, s.extract 36 68⟩, left) else none
  | none => none := by
  have hl : s.data.toList.length = s.size := rfl
  have e1 : s.extract 4 36 = ⟨((s.data.toList.drop 4).take 32).toArray⟩ := (((Txt.self s).extract 4 36).cast (by rw [List.drop_take])).of
  have e2 : s.extract 36 68 = ⟨((s.data.toList.drop 36).take 32).toArray⟩ := (((Txt.self s).extract 36 68).cast (by rw [List.drop_take])).of
  rw [e1, e2]
  unfold rcpTake
  rw [if_neg (by rw [hl]; exact h)]
  rfl
theorem rcpTake_short {s : ByteArray} (h : s.size < 68) : rcpTake s.data.toList = none := by unfold rcpTake; rw [if_pos (by exact h)]

set_option maxRecDepth 100000 in
set_option maxHeartbeats 4000000 in
theorem rcptake_walk (s : ByteArray) (w : World) (hs : s.size ≤ 1073741824) :
    Calls Tryz.prog 205 #[.string s] w fun e w' => RcpTakeEnd s.data.toList e ∧ Below w.heap.size w w' := by
  have hl : s.data.toList.length = s.size := rfl
  have HL := Lib.hid hl; clear hl
  by_cases c1 : s.size < 68
  · have d1 : (s.size : Int) < 68 := by omega
    have HR0 := Lib.hid (rcpTake_short c1)
    clear c1
    go_enter Tryz.func205, Tryz.ntmps205
    go_wp2_with (first
      | ((with_reducible refine wpList_alloc_new 37 Rcp.zero.cells zeroRcp (some 2) ?hgd ?ho ?hd ?_); (case hgd | ho | hd => rfl); (intro b2 w2 l2 B2 e2 z2))
      | ((with_reducible refine wpList_store_new 37 (.tmp 2) (.tmp 14) b2 Rcp.zero.cells Rcp.zero.cells 37 B2 rfl rsizeRcp (Rcp.cells_one _) ?hgd ?ho ?hx ?hy ?_); (case hgd | ho | hx | hy => rfl); (intro w9 B9 o9))
      | fail)
    (try simp only [Exit.inBlock, Exit.then]); refine bodyPost_ret (results_cell2 rfl _ _ B9.range rfl Tryz.underlying37 rfl rsizeRcp) rfl ⟨.inr ⟨HR0.out, rfl⟩, o9.below (e2.mono l2) l2⟩
  have d1 : (68 : Int) ≤ s.size := by omega
  have d36 : (36 : Int) ≤ s.size := by omega
  have HRT := Lib.hid (rcpTake_long c1)
  have tg : Txt (s.extract 0 4) (s.data.toList.take 4) := ((Txt.self s).extract 0 4).cast (by simp)
  have TG := Lib.hid tg
  have tz : Txt (s.extract 68 s.size) (s.data.toList.drop 68) := ((Txt.self s).extract 68 s.size).cast (by rw [List.take_of_length_le (by rw [HL.out]; omega)])
  have hzs : (s.extract 68 s.size).size ≤ 1073741824 := by rw [tz.size, List.length_drop, HL.out]; omega
  have TZ := Lib.hid tz
  have HZS := Lib.hid hzs
  have hn4 : beNum (s.data.toList.take 4) < 4294967296 := by
    have := beNum_lt (s.data.toList.take 4)
    rw [List.length_take, HL.out, Nat.min_eq_left (by omega)] at this
    simpa using this
  obtain ⟨n, hn⟩ : ∃ n, beNum (s.data.toList.take 4) = n := ⟨_, rfl⟩
  have HN := Lib.hid hn
  rw [hn] at hn4
  have hnf : Fits ((n : Nat) : Int) := by unfold Fits; omega
  have HNF := Lib.hid hnf
  clear tg tz hzs hn hnf
  go_enter Tryz.func205, Tryz.ntmps205
  go_wp2_with ((with_reducible refine wpList_alloc_new 37 Rcp.zero.cells zeroRcp (some 2) ?hgd ?ho ?hd ?_); (case hgd | ho | hd => rfl); (intro b2 w2 l2 B2 e2 z2))
  have HB2 := Lib.hid B2
  have HW2 := Lib.hid (e2.mono l2)
  clear B2 e2 z2
  refine (oget_walk (s.extract 0 4) _).mono ?_
  rintro e w3 ⟨he, rfl⟩
  rcases he with ⟨hok, rfl⟩ | ⟨hno, rfl⟩
  rotate_left
  · exfalso
    rw [show (s.extract 0 4).data.toList = _ from TG.out, List.length_take, HL.out, HN.out] at hno
    omega
  rw [show (s.extract 0 4).data.toList = _ from TG.out, HN.out]
  clear hok
  go_wp2_with fail
  refine (rectake_walk (s.extract 68 s.size) _ HZS.out).mono ?_
  rintro e w3 ⟨he, hb3⟩
  have HB3 := Lib.hid (HB2.out.below hb3 HB2.out.lt)
  have HW3 := Lib.hid (HW2.out.trans (hb3.mono HW2.out.size))
  clear hb3 HB2 HW2
  obtain ⟨r, y, f, rfl, hrf⟩ : ∃ r y f, e = .returned (.tuple #[r.v, .string y, .int .i64 f]) ∧ ((f = 0 ∧ recTake (s.data.toList.drop 68) = some (r, y.data.toList)) ∨ (f = 3 ∧ recTake (s.data.toList.drop 68) = none)) := by
    unfold RecTakeEnd at he
    rw [show (s.extract 68 s.size).data.toList = _ from TZ.out] at he
    rcases he with ⟨r, left, y, h1, h2, h3⟩ | ⟨h1, h2⟩
    · exact ⟨r, y, 0, h2, .inl ⟨rfl, by rw [h1, show y.data.toList = _ from h3]⟩⟩
    · exact ⟨Rec.zero, _, 3, h2, .inr ⟨rfl, h1⟩⟩
  clear he
  have HRF := Lib.hid hrf
  clear hrf
  go_wp2_with (first
    | ((with_reducible refine wpList_alloc_new 25 Rec.zero.cells zeroRec2 (some 7) ?hgd ?ho ?hd ?_); (case hgd | ho | hd => rfl); (intro b7 w7 l7 B7 e7 z7))
    | ((with_reducible refine wpList_store_new 25 (.tmp 7) (.tmp 25) b7 Rec.zero.cells r.cells 25 B7 rfl rsizeRec (Rec.cells_one1 _) ?hgd ?ho ?hx ?hy ?_); (case hgd | ho | hx | hy => rfl); (intro w8 B8 o8))
    | fail)
  have hb8 := o8.below (e7.mono l7) l7
  have HB8 := Lib.hid (HB3.out.below hb8 HB3.out.lt)
  have HW8 := Lib.hid (HW3.out.trans (hb8.mono HW3.out.size))
  have i0 := B8.cell (i := 0) rfl
  have i1 := B8.cell (i := 1) rfl
  have i2 := B8.cell (i := 2) rfl
  have i3 := B8.cell (i := 3) rfl
  have i4 := B8.cell (i := 4) rfl
  have i5 := B8.cell (i := 5) rfl
  have i6 := B8.cell (i := 6) rfl
  have i7 := B8.cell (i := 7) rfl
  have z8 := B8.lt
  clear B7 B8 o8 e7 l7 z7 hb8 HB3 HW3
  apply use_one'
  · intro hfin
    go_region_with (fail)
    all_goals exact hfin
  clear i0 i1 i2 i3 i4 i5 i6 i7 d36 d1
  obtain ⟨X, hX⟩ : ∃ X : Rcp, X = ⟨((n : Nat) : Int), r, s.extract 4 36, s.extract 36 68⟩ := ⟨_, rfl⟩
  have B10 : Blk (w8.alloc (Obj.cells #[.int .i64 ((n : Nat) : Int), .int .i64 r.kind, .int .i64 r.epoch, .int .i64 r.time, .int .i64 r.count, .int .i64 r.target, .int .i64 r.till, .string r.root, .string r.name, .string (s.extract 4 36), .string (s.extract 36 68)] 37)).drew w8.heap.size X.cells 37 := by rw [hX]; exact Blk.new w8 (Rcp.cells ⟨((n : Nat) : Int), r, s.extract 4 36, s.extract 36 68⟩) 37
  have hb10 : Below w8.heap.size w8 (w8.alloc (Obj.cells #[.int .i64 ((n : Nat) : Int), .int .i64 r.kind, .int .i64 r.epoch, .int .i64 r.time, .int .i64 r.count, .int .i64 r.target, .int .i64 r.till, .string r.root, .string r.name, .string (s.extract 4 36), .string (s.extract 36 68)] 37)).drew := ((Below.refl _ _).alloc (Nat.le_refl _) _).drew
  obtain ⟨wE, hwE⟩ : ∃ W, (w8.alloc (Obj.cells #[.int .i64 ((n : Nat) : Int), .int .i64 r.kind, .int .i64 r.epoch, .int .i64 r.time, .int .i64 r.count, .int .i64 r.target, .int .i64 r.till, .string r.root, .string r.name, .string (s.extract 4 36), .string (s.extract 36 68)] 37)).drew = W := ⟨_, rfl⟩
  rw [hwE] at B10 hb10 ⊢
  obtain ⟨b10, hb10e⟩ : ∃ b, w8.heap.size = b := ⟨_, rfl⟩
  rw [hb10e] at B10 ⊢
  have HBE := Lib.hid (HB8.out.below hb10 HB8.out.lt)
  have HWE := Lib.hid (HW8.out.trans (hb10.mono HW8.out.size))
  have HX := Lib.hid hX
  have R10 := Lib.hid (RcpAt.blk B10)
  clear hwE hb10 hb10e hX B10
  rcases HRF.out with ⟨rfl, hrt⟩ | ⟨rfl, hrt⟩
  rotate_left
  · have HR0 : Hid (rcpTake s.data.toList = none) := Lib.hid (by rw [HRT.out, hrt])
    clear hrt
    go_wp2_with ((with_reducible refine wpList_store_new 37 (.tmp 2) (.tmp 42) b2 Rcp.zero.cells (Rcp.zero.cells) 37 HBE.out rfl rsizeRcp (Rcp.cells_one _) ?hgd ?ho ?hx ?hy ?_); (case hgd | ho | hx | hy => rfl); (intro w9 B9 o9))
    (try simp only [Exit.inBlock, Exit.then]); refine bodyPost_ret (results_cell2 rfl _ _ B9.range rfl Tryz.underlying37 rfl rsizeRcp) rfl ⟨.inr ⟨HR0.out, rfl⟩, o9.below HWE.out l2⟩
  have hR : rcpTake s.data.toList = if rcpOk X then some (X, y.data.toList) else none := by
    rw [HRT.out, hrt]
    simp only
    rw [HN.out, ← HX.out]
  have hrk := (recTake_back hrt).2
  have hrf := recOk_facts hrk
  have hXn : X.r.name.size ≤ 1073741824 := by rw [HX.out]; show r.name.size ≤ _; omega
  have hXe : Fits X.r.epoch := by rw [HX.out]; show Fits r.epoch; unfold Fits; omega
  have hXs : Fits X.seq := by rw [HX.out]; exact HNF.out
  have HR := Lib.hid hR
  clear hR hrk hrf hrt
  obtain ⟨a0, a1, a2, a3, a4, a5, a6, a7, a8, a9, aA⟩ := R10.out.cells_
  go_wp2_with fail
  clear a0 a1 a2 a3 a4 a5 a6 a7 a8 a9 aA
  refine (may21_walk X _ hXn hXe hXs).mono ?_
  rintro e wF ⟨rfl, hbF⟩
  have HBF := Lib.hid (HBE.out.below hbF HBE.out.lt)
  have HWF := Lib.hid (HWE.out.trans (hbF.mono HWE.out.size))
  have RF := Lib.hid (R10.out.below hbF R10.out.lt)
  clear hbF
  cases hok : rcpOk X with
  | false =>
    have hr := HR.out
    rw [hok] at hr
    simp only [Bool.false_eq_true, if_false] at hr
    have HR2 := Lib.hid hr
    clear hr hok
    go_wp2_with ((with_reducible refine wpList_store_new 37 (.tmp 2) (.tmp 42) b2 Rcp.zero.cells (Rcp.zero.cells) 37 HBF.out rfl rsizeRcp (Rcp.cells_one _) ?hgd ?ho ?hx ?hy ?_); (case hgd | ho | hx | hy => rfl); (intro w9 B9 o9))
    (try simp only [Exit.inBlock, Exit.then]); refine bodyPost_ret (results_cell2 rfl _ _ B9.range rfl Tryz.underlying37 rfl rsizeRcp) rfl ⟨.inr ⟨HR2.out, rfl⟩, o9.below HWF.out l2⟩
  | true =>
    have hr := HR.out
    rw [hok, if_pos rfl] at hr
    have HR2 := Lib.hid hr
    clear hr hok
    obtain ⟨a0, a1, a2, a3, a4, a5, a6, a7, a8, a9, aA⟩ := RF.out.cells_
    go_wp2_with ((with_reducible refine wpList_store_new 37 (.tmp 2) (.tmp 43) b2 Rcp.zero.cells (X.cells) 37 HBF.out rfl rsizeRcp (Rcp.cells_one _) ?hgd ?ho ?hx ?hy ?_); (case hgd | ho | hx | hy => rfl); (intro w9 B9 o9))
    (try simp only [Exit.inBlock, Exit.then]); refine bodyPost_ret (results_cell2 rfl _ _ B9.range rfl Tryz.underlying37 rfl rsizeRcp) rfl ⟨.inl ⟨_, _, _, HR2.out, rfl, Txt.self _⟩, o9.below HWF.out l2⟩
end Go.Proofs.YtidekfbgjghcjaaGreat

