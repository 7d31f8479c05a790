/- Walks of record.Take, receipt.Put, receipt.Take (chapters 19, 21). -/
import Derived.Test.YtidekfbgjghcjaaGreatCut
import Derived.Test.YtidekfbgjghcjaaGreatTake
import Derived.Test.YtidekfbgjghcjaaGreatSeal1
import Derived.Deep.RegionHeld3
namespace Go.Proofs.YtidekfbgjghcjaaGreat
set_option linter.unusedSimpArgs false
set_option linter.unusedVariables false
open Go Go.RowKit

theorem results_cell_tmp2 {fn : Func} {p u v : Tmp} {ty : TypeId} (h : fn.results = #[.cell p ty, .tmp u, .tmp v]) (tmps : Array Value) (P : Program) (w : World) :
    (results fn tmps).run P w = ((asAddr (tmps.getD p undef)).run P w).andThen fun a w₁ => ((loadVar ty a).run P w₁).andThen fun x w₂ => .ok (.tuple #[x, tmps.getD u undef, tmps.getD v undef]) w₂ := by
  simp only [results, h]
  simp [Sem.run_bind, Result.andThen]
theorem results_cell2 {fn : Func} {p u v : Tmp} {ty : TypeId} {cs : List Value} {d : TypeDesc} (h : fn.results = #[.cell p ty, .tmp u, .tmp v]) (tmps : Array Value) (w : World) {b : Nat} (hb : w.rangeAt b 0 cs) (hp : tmps.getD p undef = .pointer (some ⟨b, 0, none⟩))
    (hu : Tryz.prog.underlying ty = some d) (hd : d.isRow = true) (hi : (Tryz.prog.info? ty).map (·.size) = some cs.length) :
    (results fn tmps).run Tryz.prog w = .ok (.tuple #[.agg cs.toArray, tmps.getD u undef, tmps.getD v undef]) w := by
  have e := run_loadVar_mid (P := Tryz.prog) w b 0 ty cs _ hb hu hd hi
  rw [results_cell_tmp2 h, hp]
  simp only [asAddr, Sem.run_pure, Result.andThen_ok, e]
theorem zeroRec2 (w : World) : Sem.run Tryz.prog (zeroValue 25) w = .ok (.agg Rec.zero.cells.toArray) w := by kernel_rfl

def RecTakeEnd (l : List UInt8) (e : Ending) : Prop :=
  (∃ r left y, recTake l = some (r, left) ∧ e = .returned (.tuple #[r.v, .string y, .int .i64 0]) ∧ Txt y left) ∨
  (recTake l = none ∧ e = .returned (.tuple #[Rec.zero.v, .string ⟨#[]⟩, .int .i64 3]))
def wsN : List Nat := [1, 4, 8, 4, 4, 8]
theorem wsN_ok : ∀ (k a : Nat), wsN[k]? = some a → 1 ≤ a ∧ a ≤ 8 := by
  intro k a h
  have := List.mem_of_getElem? h
  simp [wsN] at this
  omega
theorem wsN_pos : 0 < wsN.length := by decide
theorem wsN_16 : wsN.length ≤ 16 := by decide
theorem wsN_row : widthsL = wsN.map (fun (a : Nat) => (a : Int)) := rfl
theorem CutEnd.any {l : List UInt8} {e : Ending} (h : CutEnd l e) : ∃ x y c, e = .returned (.tuple #[.string x, .string y, .int .i64 c]) ∧ ((c = 0 ∧ cutS l = some (x.data.toList, y.data.toList)) ∨ (c = 3 ∧ cutS l = none)) := by
  rcases h with ⟨a, b, x, y, h1, rfl, tx, ty⟩ | ⟨h1, rfl⟩
  · exact ⟨x, y, 0, rfl, .inl ⟨rfl, by rw [h1, show x.data.toList = _ from tx, show y.data.toList = _ from ty]⟩⟩
  · exact ⟨_, _, 3, rfl, .inr ⟨rfl, h1⟩⟩
theorem UnpackEnd.any {ws : List Nat} {l : List UInt8} {w w' : World} {e : Ending} (h : UnpackEnd ws l w w' e) : ∃ vo c, e = .returned (.tuple #[vo, .int .i64 c]) ∧ ((c = 0 ∧ ∃ ns, unpackS ws l = some ns ∧ w'.ownsRow w.heap.size 3 1 vo ns.length (ns.map (Value.int .i64)) ∧ ns.length = ws.length) ∨ (c = 3 ∧ unpackS ws l = none)) := by
  rcases h with ⟨ns, vo, h1, rfl, h2, h3⟩ | ⟨h1, rfl⟩
  · exact ⟨vo, 0, rfl, .inl ⟨rfl, ns, h1, h2, h3⟩⟩
  · exact ⟨_, 3, rfl, .inr ⟨rfl, h1⟩⟩
theorem recTake_short {l : List UInt8} (h : l.length < 29) : recTake l = none := by unfold recTake; rw [if_pos h]
theorem recTake_long {l : List UInt8} (h : ¬ l.length < 29) : recTake l = match unpackS wsN (l.take 29), cutS (l.drop 29) with
  | some ns, some (root, behind) =>
    match cutS behind with
    | some (name, left) => if recOk (recOf ns root name) then some (recOf ns root name, left) else none
    | none => none
  | _, _ => none := by unfold recTake wsN; rw [if_neg h]; rfl
theorem list_six {ns : List Int} (h : ns.length = 6) : ∃ a b c d e f, ns = [a, b, c, d, e, f] := by
  match ns, h with
  | [a, b, c, d, e, f], _ => exact ⟨a, b, c, d, e, f, rfl⟩

theorem unpackS_range {ws : List Nat} {l : List UInt8} {ns : List Int} (h : unpackS ws l = some ns) : ∀ x ∈ ns, Fits x := by
  induction ws generalizing l ns with
  | nil => simp only [unpackS] at h; injection h with h; subst h; intro x hx; simp at hx
  | cons w ws ih =>
    simp only [unpackS] at h
    split at h
    · next hg =>
      cases hr : unpackS ws (l.drop w) with
      | none => rw [hr] at h; cases h
      | some m =>
        rw [hr] at h
        simp at h
        subst h
        intro x hx
        rcases List.mem_cons.1 hx with rfl | hx
        · have := (getOk_iff.1 hg).2.2
          unfold Fits
          omega
        · exact ih hr x hx
    · cases h

set_option maxRecDepth 100000 in
set_option maxHeartbeats 4000000 in
theorem rectake_walk (s : ByteArray) (w : World) (hs : s.size ≤ 1073741824) :
    Calls Tryz.prog 199 #[.string s] w fun e w' => RecTakeEnd s.data.toList e ∧ Below w.heap.size w w' := by
  have hl : s.data.toList.length = s.size := rfl
  have HL := Lib.hid hl; clear hl
  go_enter Tryz.func199, Tryz.ntmps199
  go_wp2_with ((with_reducible refine wpList_alloc_new 25 Rec.zero.cells zeroRec2 (some 2) ?hgd ?ho ?hd ?_); (case hgd | ho | hd => rfl); (intro b2 w2 l2 B2 e2 z2))
  refine (widths_walk _).mono ?_
  rintro e w3 ⟨v3, rfl, hv3, hb3⟩
  have HB3 := Lib.hid (B2.below hb3 z2)
  have HW3 := Lib.hid ((e2.mono l2).trans (hb3.mono (by have := e2.size; omega)))
  clear B2 e2 z2 hb3
  obtain ⟨g3, o3, c3, rfl, hg3, hc3⟩ := hv3.at (by decide)
  rw [show widthsL.length = 6 from rfl]
  have HC3 := Lib.hid hc3
  clear hc3 hv3
  go_wp2_with fail
  go_loop [5, 19] (fun x i => ∃ k : Nat, k ≤ 6 ∧ i = .int .i64 k ∧ x = .int .i64 ((sumTo wsN k : Nat) : Int)) (fun _ i => 6 - (intOf i).toNat)
  case atStart => exact ⟨0, by omega, rfl, rfl⟩
  case round =>
    obtain ⟨k, hk, rfl, rfl⟩ := hrel
    obtain ⟨x, hx⟩ : ∃ x, x = sumTo wsN k := ⟨_, rfl⟩
    rw [← hx]
    have hx8 : x ≤ 29 := by have := sumTo_le wsN k; rw [← hx] at this; exact this
    have HX := Lib.hid hx; clear hx
    by_cases hlt : k < 6
    · have hlt' : (k : Int) < 6 := by omega
      have h00 : (0 : Int) ≤ (k : Int) := by omega
      obtain ⟨a, ha⟩ : ∃ a, wsN[k]? = some a := ⟨_, List.getElem?_eq_getElem (by exact hlt)⟩
      have hca : w3.cell? ⟨g3, o3 + k, none⟩ = some (.int .i64 (a : Int)) := HC3.out k a (by rw [wsN_row, List.getElem?_map, ha]; rfl)
      have ha8 : a ≤ 8 := by
        have := sumTo_succ ha
        have h := (List.getElem?_eq_some_iff.1 ha)
        obtain ⟨h1, rfl⟩ := h
        have : ∀ (k : Nat) (h : k < wsN.length), wsN[k] ≤ 8 := by decide
        exact this k h1
      have hsu := sumTo_succ ha
      rw [← HX.out] at hsu
      have HSU := Lib.hid hsu; clear hsu ha
      go_wp2_with fail
      go_round
      case rel => exact ⟨k + 1, by omega, by go_num, by rw [HSU.out]; go_num⟩
      case measure => simp [intOf]; omega
    · obtain rfl : k = 6 := by omega
      obtain rfl : x = 29 := HX.out
      clear HX hx8 hlt
      by_cases c1 : s.size < 29
      · have d1 : (s.size : Int) < 29 := by omega
        go_wp2_with ((with_reducible refine wpList_store_new 25 (.tmp 2) (.tmp 31) b2 Rec.zero.cells Rec.zero.cells 25 HB3.out rfl rsizeRec (Rec.cells_one1 _) ?hgd ?ho ?hx ?hy ?_); (case hgd | ho | hx | hy => rfl); (intro w9 B9 o9))
        (try simp only [Exit.inBlock, Exit.then]); refine bodyPost_ret (results_cell2 rfl _ _ B9.range rfl Tryz.underlying25 rfl rsizeRec) rfl ⟨.inr ⟨recTake_short (by rw [HL.out]; omega), rfl⟩, o9.below HW3.out l2⟩
      have d1 : (29 : Int) ≤ s.size := by omega
      have hrt := recTake_long (l := s.data.toList) (by rw [HL.out]; omega)
      have HRT := Lib.hid hrt; clear hrt
      have tz : Txt (s.extract 0 29) (s.data.toList.take 29) := ((Txt.self s).extract 0 29).cast (by simp)
      have hz : (s.extract 0 29).size = 29 := by rw [tz.size, List.length_take, HL.out]; omega
      have HZ := Lib.hid hz; clear hz
      have TZ := Lib.hid tz; clear tz
      have ty : Txt (s.extract 29 s.size) (s.data.toList.drop 29) := ((Txt.self s).extract 29 s.size).cast (by rw [List.take_of_length_le (by rw [HL.out]; omega)])
      have TY := Lib.hid ty; clear ty
      clear c1
      go_wp2_with fail
      go_region_with ((first
        | (go_at_call 213; refine (widths_walk _).mono ?_; rintro e wA ⟨vA, rfl, hvA, hbA⟩)
        | (go_at_call 250; refine (unpack_walk vA wsN (s.extract 0 29) _ hvA wsN_ok (by rw [HZ.out]; rfl) wsN_pos wsN_16).mono ?_; rintro e wB ⟨he, hbB⟩; obtain ⟨vo, cu, rfl, hu⟩ := he.any; clear he)
        | fail))
      have hb3B := bt ((Below.refl w3.heap.size w3).drew) (bt hbA hbB)
      have HBB := Lib.hid (HB3.out.below hb3B (by have := HB3.out.lt; exact this))
      have HWB := Lib.hid (HW3.out.trans (hb3B.mono HW3.out.size))
      clear hb3B hbA hvA
      go_wp2_with fail
      refine (ocut_walk (s.extract 29 s.size) _).mono ?_
      rintro e wC ⟨he, hbC⟩
      obtain ⟨x1, y1, f1, rfl, h1⟩ := he.any
      clear he
      have HBC := Lib.hid (HBB.out.below hbC HBB.out.lt)
      have HWC := Lib.hid (HWB.out.trans (hbC.mono HWB.out.size))
      go_wp2_with fail
      refine (ocut_walk y1 _).mono ?_
      rintro e wD ⟨he, hbD⟩
      obtain ⟨x2, y2, f2, rfl, h2⟩ := he.any
      clear he
      have HBD := Lib.hid (HBC.out.below hbD HBC.out.lt)
      have HWD := Lib.hid (HWC.out.trans (hbD.mono HWC.out.size))
      rw [show (s.extract 0 29).data.toList = _ from TZ.out] at hu
      rw [show (s.extract 29 s.size).data.toList = _ from TY.out] at h1
      rcases hu with ⟨rfl, ns, hu, hown, hlen⟩ | ⟨rfl, hu⟩
      rotate_left
      · have HR0 : Hid (recTake s.data.toList = none) := Lib.hid (by rw [HRT.out, hu])
        clear hu h1 h2
        go_wp2_with ((with_reducible refine wpList_store_new 25 (.tmp 2) (.tmp 64) b2 Rec.zero.cells Rec.zero.cells 25 HBD.out rfl rsizeRec (Rec.cells_one1 _) ?hgd ?ho ?hx ?hy ?_); (case hgd | ho | hx | hy => rfl); (intro w9 B9 o9))
        (try simp only [Exit.inBlock, Exit.then]); refine bodyPost_ret (results_cell2 rfl _ _ B9.range rfl Tryz.underlying25 rfl rsizeRec) rfl ⟨.inr ⟨HR0.out, rfl⟩, o9.below HWD.out l2⟩
      rcases h1 with ⟨rfl, h1⟩ | ⟨rfl, h1⟩
      rotate_left
      · have HR0 : Hid (recTake s.data.toList = none) := Lib.hid (by rw [HRT.out, hu, h1])
        clear hu h1 h2 hown
        go_wp2_with ((with_reducible refine wpList_store_new 25 (.tmp 2) (.tmp 64) b2 Rec.zero.cells Rec.zero.cells 25 HBD.out rfl rsizeRec (Rec.cells_one1 _) ?hgd ?ho ?hx ?hy ?_); (case hgd | ho | hx | hy => rfl); (intro w9 B9 o9))
        (try simp only [Exit.inBlock, Exit.then]); refine bodyPost_ret (results_cell2 rfl _ _ B9.range rfl Tryz.underlying25 rfl rsizeRec) rfl ⟨.inr ⟨HR0.out, rfl⟩, o9.below HWD.out l2⟩
      rcases h2 with ⟨rfl, h2⟩ | ⟨rfl, h2⟩
      rotate_left
      · have HR0 : Hid (recTake s.data.toList = none) := Lib.hid (by rw [HRT.out, hu, h1]; simp only; rw [h2])
        clear hu h1 h2 hown
        go_wp2_with ((with_reducible refine wpList_store_new 25 (.tmp 2) (.tmp 64) b2 Rec.zero.cells Rec.zero.cells 25 HBD.out rfl rsizeRec (Rec.cells_one1 _) ?hgd ?ho ?hx ?hy ?_); (case hgd | ho | hx | hy => rfl); (intro w9 B9 o9))
        (try simp only [Exit.inBlock, Exit.then]); refine bodyPost_ret (results_cell2 rfl _ _ B9.range rfl Tryz.underlying25 rfl rsizeRec) rfl ⟨.inr ⟨HR0.out, rfl⟩, o9.below HWD.out l2⟩
      have hrange := unpackS_range hu
      obtain ⟨a, b, c, d, e, f, rfl⟩ := list_six hlen
      obtain ⟨g, cap, z, rfl, hcap, hg, hblk⟩ := own_split hown (by simp)
      have hrec : recTake s.data.toList = if recOk ⟨a, b, c, d, e, f, x1, x2⟩ then some (⟨a, b, c, d, e, f, x1, x2⟩, y2.data.toList) else none := by
        rw [HRT.out, hu, h1]
        simp only
        rw [h2]
        rfl
      have HREC := Lib.hid hrec
      have hx2 : x2.size ≤ 1073741824 := by
        have q1 := cutS_len h1
        have q2 := cutS_len h2
        have e1 : x2.data.toList.length = x2.size := rfl
        rw [List.length_drop, HL.out] at q1
        omega
      have hfb : Fits b := hrange b (by simp)
      have hbl := (hblk.below hbC hblk.lt).below hbD (by have := hblk.lt; have := hbC.size; omega)
      have HBL := Lib.hid hbl
      have i0 : wD.cell? ⟨g, 0, none⟩ = some (.int .i64 a) := hbl.cell (i := 0) rfl
      have i1 : wD.cell? ⟨g, 1, none⟩ = some (.int .i64 b) := hbl.cell (i := 1) rfl
      have i2 : wD.cell? ⟨g, 2, none⟩ = some (.int .i64 c) := hbl.cell (i := 2) rfl
      have i3 : wD.cell? ⟨g, 3, none⟩ = some (.int .i64 d) := hbl.cell (i := 3) rfl
      have i4 : wD.cell? ⟨g, 4, none⟩ = some (.int .i64 e) := hbl.cell (i := 4) rfl
      have i5 : wD.cell? ⟨g, 5, none⟩ = some (.int .i64 f) := hbl.cell (i := 5) rfl
      have hgD : g < wD.heap.size := hbl.lt
      clear hrec hrange hu h1 h2 hown hlen hblk hbl hbB hbC hbD hg hcap
      go_wp2_with fail
      go_region_held3 (fun w' => w'.cell? ⟨g, 0, none⟩ = some (.int .i64 a) ∧ w'.cell? ⟨g, 1, none⟩ = some (.int .i64 b) ∧ w'.cell? ⟨g, 2, none⟩ = some (.int .i64 c) ∧ w'.cell? ⟨g, 3, none⟩ = some (.int .i64 d) ∧ w'.cell? ⟨g, 4, none⟩ = some (.int .i64 e) ∧ w'.cell? ⟨g, 5, none⟩ = some (.int .i64 f)) (go_keep) (fail)
      all_goals
        have B16 : Blk (wD.alloc (Obj.cells #[.int .i64 a, .int .i64 b, .int .i64 c, .int .i64 d, .int .i64 e, .int .i64 f, .string x1, .string x2] 25)).drew wD.heap.size (Rec.cells ⟨a, b, c, d, e, f, x1, x2⟩) 25 := Blk.new wD (Rec.cells ⟨a, b, c, d, e, f, x1, x2⟩) 25
        have hb16 : Below wD.heap.size wD (wD.alloc (Obj.cells #[.int .i64 a, .int .i64 b, .int .i64 c, .int .i64 d, .int .i64 e, .int .i64 f, .string x1, .string x2] 25)).drew := ((Below.refl _ _).alloc (Nat.le_refl _) _).drew
        obtain ⟨wE, hwE⟩ : ∃ W, (wD.alloc (Obj.cells #[.int .i64 a, .int .i64 b, .int .i64 c, .int .i64 d, .int .i64 e, .int .i64 f, .string x1, .string x2] 25)).drew = W := ⟨_, rfl⟩
        rw [hwE] at B16 hb16 ⊢
        have HBE := Lib.hid (HBD.out.below hb16 HBD.out.lt)
        have HWE := Lib.hid (HWD.out.trans (hb16.mono HWD.out.size))
        have H16 := Lib.hid B16
        clear hwE B16 hb16 i0 i1 i2 i3 i4 i5 HBL hgD
        go_wp2_with ((with_reducible refine wpList_load_blk 25 (.tmp 16) wD.heap.size (Rec.cells ⟨a, b, c, d, e, f, x1, x2⟩) 25 _ H16.out Tryz.underlying25 rfl rsizeRec ?hgd ?ho ?hx ?_); (case hgd | ho | hx => rfl))
        refine (check_walk ⟨a, b, c, d, e, f, x1, x2⟩ _ hx2 hfb).mono ?_
        rintro e wF ⟨rfl, hbF⟩
        have HBF := Lib.hid (HBE.out.below hbF HBE.out.lt)
        have HWF := Lib.hid (HWE.out.trans (hbF.mono HWE.out.size))
        have HF16 := Lib.hid (H16.out.below hbF H16.out.lt)
        clear hbF
        cases hok : recOk ⟨a, b, c, d, e, f, x1, x2⟩ with
        | false =>
          rw [chkI_no hok]
          have hr := HREC.out
          rw [hok] at hr
          simp only [Bool.false_eq_true, if_false] at hr
          have HR := Lib.hid hr
          clear hr hok
          go_wp2_with (first
            | ((with_reducible refine wpList_load_blk 25 (.tmp 16) wD.heap.size (Rec.cells ⟨a, b, c, d, e, f, x1, x2⟩) 25 _ HF16.out Tryz.underlying25 rfl rsizeRec ?hgd ?ho ?hx ?_); (case hgd | ho | hx => rfl))
            | ((with_reducible refine wpList_store_new 25 (.tmp 2) (.tmp 89) b2 Rec.zero.cells (Rec.zero.cells) 25 HBF.out rfl rsizeRec (Rec.cells_one1 _) ?hgd ?ho ?hx ?hy ?_); (case hgd | ho | hx | hy => rfl); (intro w9 B9 o9))
            | fail)
          (try simp only [Exit.inBlock, Exit.then]); refine bodyPost_ret (results_cell2 rfl _ _ B9.range rfl Tryz.underlying25 rfl rsizeRec) rfl ⟨.inr ⟨HR.out, rfl⟩, o9.below HWF.out l2⟩
        | true =>
          rw [chkI_yes hok]
          have hr := HREC.out
          rw [hok, if_pos rfl] at hr
          have HR := Lib.hid hr
          clear hr hok
          go_wp2_with (first
            | ((with_reducible refine wpList_load_blk 25 (.tmp 16) wD.heap.size (Rec.cells ⟨a, b, c, d, e, f, x1, x2⟩) 25 _ HF16.out Tryz.underlying25 rfl rsizeRec ?hgd ?ho ?hx ?_); (case hgd | ho | hx => rfl))
            | ((with_reducible refine wpList_store_new 25 (.tmp 2) (.tmp 90) b2 Rec.zero.cells (Rec.cells ⟨a, b, c, d, e, f, x1, x2⟩) 25 HBF.out rfl rsizeRec (Rec.cells_one1 _) ?hgd ?ho ?hx ?hy ?_); (case hgd | ho | hx | hy => rfl); (intro w9 B9 o9))
            | fail)
          (try simp only [Exit.inBlock, Exit.then]); refine bodyPost_ret (results_cell2 rfl _ _ B9.range rfl Tryz.underlying25 rfl rsizeRec) rfl ⟨.inl ⟨_, _, _, HR.out, rfl, Txt.self _⟩, o9.below HWF.out l2⟩
end Go.Proofs.YtidekfbgjghcjaaGreat

