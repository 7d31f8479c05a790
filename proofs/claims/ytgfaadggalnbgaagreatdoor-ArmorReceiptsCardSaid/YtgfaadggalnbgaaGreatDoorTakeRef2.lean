/- Walks of the documents' Take (chapter 19). -/
import Derived.Test.YtgfaadggalnbgaaGreatDoorTakeRef
namespace Go.Proofs.YtgfaadggalnbgaaGreatDoor
set_option linter.unusedSimpArgs false
set_option linter.unusedVariables false
open Go Go.RowKit
set_option linter.unusedVariables false

/-- How the documents' Take ends. -/
def RRecTakeEnd (l : List UInt8) (e : Ending) : Prop :=
  (∃ r left y, recTake l = some (r, left) ∧ e = .returned (.tuple #[r.v, .string y, .bool true]) ∧ Txt y left) ∨
  (recTake l = none ∧ e = .returned (.tuple #[Rec.zero.v, .string ⟨#[]⟩, .bool false]))
set_option maxRecDepth 100000 in
set_option maxHeartbeats 4000000 in
theorem rrectake_walk (s : ByteArray) (w : World) (hs : s.size ≤ 1073741824) :
    Calls Tryz.prog 51 #[.string s] w fun e w' => RRecTakeEnd s.data.toList e ∧ Below w.heap.size w w' := by
  have hl : s.data.toList.length = s.size := rfl
  have HL := Lib.hid hl; clear hl
  by_cases c1 : s.size < 29
  · have d1 : (s.size : Int) < 29 := by omega
    have HR0 := Lib.hid (recTake_short (l := s.data.toList) (by rw [HL.out]; exact c1))
    clear c1
    go_enter Tryz.func51, Tryz.ntmps51
    go_wp2_with (first
      | ((with_reducible refine wpList_alloc_new 23 Rec.zero.cells zeroRec2 (some 2) ?hgd ?ho ?hd ?_); (case hgd => rfl); (case ho => rfl); (case hd => rfl); (intro b2 w2 l2 B2 e2 z2))
      | ((with_reducible refine wpList_store_new 23 (.tmp 2) (.tmp 17) b2 Rec.zero.cells Rec.zero.cells 23 B2 rfl rsizeRec (Rec.cells_one1 _) ?hgd ?ho ?hx ?hy ?_); (case hgd => rfl); (case ho => rfl); (case hx => rfl); (case hy => rfl); (intro w9 B9 o9))
      | fail)
    (try simp only [Exit.inBlock, Exit.then]); refine bodyPost_ret (results_cell2 rfl _ _ B9.range rfl Tryz.underlying23 rfl rsizeRec) rfl ⟨.inr ⟨HR0.out, rfl⟩, o9.below (e2.mono l2) l2⟩
  have d1 : (29 : Int) ≤ s.size := by omega
  have hrt := recTake_long (l := s.data.toList) (by rw [HL.out]; omega)
  have HRT := Lib.hid hrt; clear hrt
  have tz : Txt (s.extract 0 29) (s.data.toList.take 29) := ((Txt.self s).extract 0 29).cast (by simp)
  have hz : (s.extract 0 29).size = 29 := by rw [tz.size, List.length_take, HL.out]; omega
  have HZ := Lib.hid hz; clear hz
  have TZ := Lib.hid tz; clear tz
  have ty : Txt (s.extract 29 s.size) (s.data.toList.drop 29) := ((Txt.self s).extract 29 s.size).cast (by rw [List.take_of_length_le (by rw [HL.out]; omega)])
  have hz2 : (s.extract 29 s.size).size ≤ 1073741824 := by rw [ty.size, List.length_drop, HL.out]; omega
  have HZ2 := Lib.hid hz2; clear hz2
  have TY := Lib.hid ty; clear ty
  clear c1
  go_enter Tryz.func51, Tryz.ntmps51
  go_wp2_with ((with_reducible refine wpList_alloc_new 23 Rec.zero.cells zeroRec2 (some 2) ?hgd ?ho ?hd ?_); (case hgd => rfl); (case ho => rfl); (case hd => rfl); (intro b2 w2 l2 B2 e2 z2))
  have HB2 := Lib.hid B2
  have HW2 := Lib.hid (e2.mono l2)
  clear B2 e2 z2
  refine (runpack_walk _ wsN (s.extract 0 29) _ (IntRow.blk (xs := widthsL) (Blk.new _ (widthsL.map (Value.int .i64)) 3) rfl 6) wsN_ok (by rw [HZ.out]; rfl) wsN_pos wsN_16).mono ?_
  rintro e wB ⟨he, hbB⟩
  obtain ⟨vo, cu, rfl, hu⟩ := he.any
  clear he
  have hb2B := ((Below.refl w2.heap.size w2).alloc (Nat.le_refl _) (.cells (widthsL.map (Value.int .i64)).toArray 3)).trans (hbB.mono (by simp))
  have HBB := Lib.hid (HB2.out.below hb2B HB2.out.lt)
  have HWB := Lib.hid (HW2.out.trans (hb2B.mono HW2.out.size))
  have hwBs : w2.heap.size ≤ wB.heap.size := hb2B.size
  clear hb2B hbB HB2 HW2
  go_wp2_with fail
  refine (rcut_walk (s.extract 29 s.size) _ HZ2.out).mono ?_
  rintro e wC ⟨he, hbC⟩
  obtain ⟨x1, y1, f1, rfl, h1⟩ := he.any
  clear he
  have HBC := Lib.hid (HBB.out.below hbC HBB.out.lt)
  have HWC := Lib.hid (HWB.out.trans (hbC.mono HWB.out.size))
  rw [show (s.extract 0 29).data.toList = _ from TZ.out] at hu
  rw [show (s.extract 29 s.size).data.toList = _ from TY.out] at h1
  rcases hu with ⟨rfl, ns, hu, hown, hlen⟩ | ⟨rfl, hu⟩
  rotate_left
  · have HR0 : Hid (recTake s.data.toList = none) := Lib.hid (by rw [HRT.out, hu])
    clear hu h1
    go_wp2_with ((with_reducible refine wpList_store_new 23 (.tmp 2) (.tmp 38) b2 Rec.zero.cells Rec.zero.cells 23 HBC.out rfl rsizeRec (Rec.cells_one1 _) ?hgd ?ho ?hx ?hy ?_); (case hgd => rfl); (case ho => rfl); (case hx => rfl); (case hy => rfl); (intro w9 B9 o9))
    (try simp only [Exit.inBlock, Exit.then]); refine bodyPost_ret (results_cell2 rfl _ _ B9.range rfl Tryz.underlying23 rfl rsizeRec) rfl ⟨.inr ⟨HR0.out, rfl⟩, o9.below HWC.out l2⟩
  rcases h1 with ⟨rfl, h1⟩ | ⟨rfl, h1⟩
  rotate_left
  · have HR0 : Hid (recTake s.data.toList = none) := Lib.hid (by rw [HRT.out, hu, h1])
    clear hu h1 hown
    go_wp2_with ((with_reducible refine wpList_store_new 23 (.tmp 2) (.tmp 38) b2 Rec.zero.cells Rec.zero.cells 23 HBC.out rfl rsizeRec (Rec.cells_one1 _) ?hgd ?ho ?hx ?hy ?_); (case hgd => rfl); (case ho => rfl); (case hx => rfl); (case hy => rfl); (intro w9 B9 o9))
    (try simp only [Exit.inBlock, Exit.then]); refine bodyPost_ret (results_cell2 rfl _ _ B9.range rfl Tryz.underlying23 rfl rsizeRec) rfl ⟨.inr ⟨HR0.out, rfl⟩, o9.below HWC.out l2⟩
  have HY1 : Hid (y1.size ≤ 1073741824) := Lib.hid (by
    have q1 := cutS_len h1
    have e1 : y1.data.toList.length = y1.size := rfl
    rw [List.length_drop, HL.out] at q1
    omega)
  go_wp2_with fail
  refine (rcut_walk y1 _ HY1.out).mono ?_
  rintro e wD ⟨he, hbD⟩
  obtain ⟨x2, y2, f2, rfl, h2⟩ := he.any
  clear he
  have HBD := Lib.hid (HBC.out.below hbD HBC.out.lt)
  have HWD := Lib.hid (HWC.out.trans (hbD.mono HWC.out.size))
  rcases h2 with ⟨rfl, h2⟩ | ⟨rfl, h2⟩
  rotate_left
  · have HR0 : Hid (recTake s.data.toList = none) := Lib.hid (by rw [HRT.out, hu, h1]; simp only; rw [h2])
    clear hu h1 h2 hown
    go_wp2_with ((with_reducible refine wpList_store_new 23 (.tmp 2) (.tmp 47) b2 Rec.zero.cells Rec.zero.cells 23 HBD.out rfl rsizeRec (Rec.cells_one1 _) ?hgd ?ho ?hx ?hy ?_); (case hgd => rfl); (case ho => rfl); (case hx => rfl); (case hy => rfl); (intro w9 B9 o9))
    (try simp only [Exit.inBlock, Exit.then]); refine bodyPost_ret (results_cell2 rfl _ _ B9.range rfl Tryz.underlying23 rfl rsizeRec) rfl ⟨.inr ⟨HR0.out, rfl⟩, o9.below HWD.out l2⟩
  have hrange := unpackS_range hu
  obtain ⟨a, b, c, d, e, f, rfl⟩ := list_six hlen
  obtain ⟨g, cap, z, rfl, hcap, hg, hblk⟩ := own_split hown (by simp)
  have hrec : recTake s.data.toList = if recOk ⟨a, b, c, d, e, f, x1, x2⟩ then some (⟨a, b, c, d, e, f, x1, x2⟩, y2.data.toList) else none := by
    rw [HRT.out, hu, h1]
    simp only
    rw [h2]
    rfl
  have HREC := Lib.hid hrec
  have hx2 : x2.size ≤ 1073741824 := by
    have q1 := cutS_len h1
    have q2 := cutS_len h2
    have e1 : x2.data.toList.length = x2.size := rfl
    rw [List.length_drop, HL.out] at q1
    omega
  have hfb : Fits b := hrange b (by simp)
  have hbl := (hblk.below hbC hblk.lt).below hbD (by have := hblk.lt; have := hbC.size; omega)
  have HBL := Lib.hid hbl
  have i0 : wD.cell? ⟨g, 0, none⟩ = some (.int .i64 a) := hbl.cell (i := 0) rfl
  have i1 : wD.cell? ⟨g, 1, none⟩ = some (.int .i64 b) := hbl.cell (i := 1) rfl
  have i2 : wD.cell? ⟨g, 2, none⟩ = some (.int .i64 c) := hbl.cell (i := 2) rfl
  have i3 : wD.cell? ⟨g, 3, none⟩ = some (.int .i64 d) := hbl.cell (i := 3) rfl
  have i4 : wD.cell? ⟨g, 4, none⟩ = some (.int .i64 e) := hbl.cell (i := 4) rfl
  have i5 : wD.cell? ⟨g, 5, none⟩ = some (.int .i64 f) := hbl.cell (i := 5) rfl
  have hgD : g < wD.heap.size := hbl.lt
  clear hrec hrange hu h1 h2 hown hlen hblk hbl hbC hbD hg hcap
  go_wp2_with fail
  go_region_held3 (fun w' => w'.cell? ⟨g, 0, none⟩ = some (.int .i64 a) ∧ w'.cell? ⟨g, 1, none⟩ = some (.int .i64 b) ∧ w'.cell? ⟨g, 2, none⟩ = some (.int .i64 c) ∧ w'.cell? ⟨g, 3, none⟩ = some (.int .i64 d) ∧ w'.cell? ⟨g, 4, none⟩ = some (.int .i64 e) ∧ w'.cell? ⟨g, 5, none⟩ = some (.int .i64 f)) (go_keep) (fail)
  all_goals
    have B16 : Blk (wD.alloc (Obj.cells #[.int .i64 a, .int .i64 b, .int .i64 c, .int .i64 d, .int .i64 e, .int .i64 f, .string x1, .string x2] 23)).drew wD.heap.size (Rec.cells ⟨a, b, c, d, e, f, x1, x2⟩) 23 := Blk.new wD (Rec.cells ⟨a, b, c, d, e, f, x1, x2⟩) 23
    have hb16 : Below wD.heap.size wD (wD.alloc (Obj.cells #[.int .i64 a, .int .i64 b, .int .i64 c, .int .i64 d, .int .i64 e, .int .i64 f, .string x1, .string x2] 23)).drew := ((Below.refl _ _).alloc (Nat.le_refl _) _).drew
    obtain ⟨wE, hwE⟩ : ∃ W, (wD.alloc (Obj.cells #[.int .i64 a, .int .i64 b, .int .i64 c, .int .i64 d, .int .i64 e, .int .i64 f, .string x1, .string x2] 23)).drew = W := ⟨_, rfl⟩
    rw [hwE] at B16 hb16 ⊢
    have HBE := Lib.hid (HBD.out.below hb16 HBD.out.lt)
    have HWE := Lib.hid (HWD.out.trans (hb16.mono HWD.out.size))
    have H16 := Lib.hid B16
    clear hwE B16 hb16 i0 i1 i2 i3 i4 i5 HBL hgD
    go_wp2_with ((with_reducible refine wpList_load_blk 23 (.tmp 13) wD.heap.size (Rec.cells ⟨a, b, c, d, e, f, x1, x2⟩) 23 _ H16.out Tryz.underlying23 rfl rsizeRec ?hgd ?ho ?hx ?_); (case hgd => rfl); (case ho => rfl); (case hx => rfl))
    refine (right_walk ⟨a, b, c, d, e, f, x1, x2⟩ _).mono ?_
    rintro e wF ⟨rfl, hbF⟩
    have HBF := Lib.hid (HBE.out.below hbF HBE.out.lt)
    have HWF := Lib.hid (HWE.out.trans (hbF.mono HWE.out.size))
    have HF16 := Lib.hid (H16.out.below hbF H16.out.lt)
    clear hbF
    cases hok : recOk ⟨a, b, c, d, e, f, x1, x2⟩ with
    | false =>
      have hr := HREC.out
      rw [hok] at hr
      simp only [Bool.false_eq_true, if_false] at hr
      have HR := Lib.hid hr
      clear hr hok
      go_wp2_with (first
        | ((with_reducible refine wpList_load_blk 23 (.tmp 13) wD.heap.size (Rec.cells ⟨a, b, c, d, e, f, x1, x2⟩) 23 _ HF16.out Tryz.underlying23 rfl rsizeRec ?hgd ?ho ?hx ?_); (case hgd => rfl); (case ho => rfl); (case hx => rfl))
        | ((with_reducible refine wpList_store_new 23 (.tmp 2) (.tmp 72) b2 Rec.zero.cells (Rec.zero.cells) 23 HBF.out rfl rsizeRec (Rec.cells_one1 _) ?hgd ?ho ?hx ?hy ?_); (case hgd => rfl); (case ho => rfl); (case hx => rfl); (case hy => rfl); (intro w9 B9 o9))
        | fail)
      (try simp only [Exit.inBlock, Exit.then]); refine bodyPost_ret (results_cell2 rfl _ _ B9.range rfl Tryz.underlying23 rfl rsizeRec) rfl ⟨.inr ⟨HR.out, rfl⟩, o9.below HWF.out l2⟩
    | true =>
      have hr := HREC.out
      rw [hok, if_pos rfl] at hr
      have HR := Lib.hid hr
      clear hr hok
      go_wp2_with (first
        | ((with_reducible refine wpList_load_blk 23 (.tmp 13) wD.heap.size (Rec.cells ⟨a, b, c, d, e, f, x1, x2⟩) 23 _ HF16.out Tryz.underlying23 rfl rsizeRec ?hgd ?ho ?hx ?_); (case hgd => rfl); (case ho => rfl); (case hx => rfl))
        | ((with_reducible refine wpList_store_new 23 (.tmp 2) (.tmp 73) b2 Rec.zero.cells (Rec.cells ⟨a, b, c, d, e, f, x1, x2⟩) 23 HBF.out rfl rsizeRec (Rec.cells_one1 _) ?hgd ?ho ?hx ?hy ?_); (case hgd => rfl); (case ho => rfl); (case hx => rfl); (case hy => rfl); (intro w9 B9 o9))
        | fail)
      (try simp only [Exit.inBlock, Exit.then]); refine bodyPost_ret (results_cell2 rfl _ _ B9.range rfl Tryz.underlying23 rfl rsizeRec) rfl ⟨.inl ⟨_, _, _, HR.out, rfl, Txt.self _⟩, o9.below HWF.out l2⟩
end Go.Proofs.YtgfaadggalnbgaaGreatDoor
