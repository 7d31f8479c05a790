/- The shape of a shape's bytes (chapter 9): Take. -/
import Derived.Test.YtppdboadjefieaaGreatGeom
import Derived.Test.YtppdboadjefieaaGreatCut
import Derived.Test.YtppdboadjefieaaGreatMem2
import Derived.Test.YtppdboadjefieaaGreatG1
import Derived.Deep.RegionHeld3
namespace Go.Proofs.YtppdboadjefieaaGreat
set_option linter.unusedSimpArgs false
set_option linter.unusedVariables false
open Go Go.RowKit
set_option linter.unusedVariables false
set_option maxRecDepth 100000

theorem unpackS_cons {w n : Nat} {ws : List Nat} {l : List UInt8} (h1 : 1 ≤ w) (h8 : w ≤ 8) (hn : n < 256 ^ w) (h63 : n < 9223372036854775808) : unpackS (w :: ws) (beBytes w n ++ l) = (unpackS ws l).map ((n : Int) :: ·) := by
  have e1 : (beBytes w n ++ l).take w = beBytes w n := take_app (beBytes_length w n)
  have e2 : (beBytes w n ++ l).drop w = l := drop_app (beBytes_length w n)
  have hb := beNum_beBytes w n hn
  conv => lhs; unfold unpackS
  rw [e1, e2, if_pos (getOk_iff.2 ⟨by rw [beBytes_length]; exact h1, by rw [beBytes_length]; exact h8, by rw [hb]; exact h63⟩), hb]
theorem unpackS_nil (l : List UInt8) : unpackS [] l = some [] := by unfold unpackS; rfl
theorem geoL_unpack {g : GeoD} (h : GeoOk g) : unpackS [4, 4, 4] (geoL g) = some [g.blocks, g.lbas, g.first] := by
  obtain ⟨h1, h2, h3, h4, h5, h6⟩ := h
  have p4 : (256 : Nat) ^ 4 = 4294967296 := rfl
  have e : geoL g = beBytes 4 g.blocks.toNat ++ (beBytes 4 g.lbas.toNat ++ (beBytes 4 g.first.toNat ++ [])) := by unfold geoL; simp
  rw [e, unpackS_cons (by decide) (by decide) (by omega) (by omega), unpackS_cons (by decide) (by decide) (by omega) (by omega), unpackS_cons (by decide) (by decide) (by omega) (by omega), unpackS_nil]
  simp only [Option.map_some]
  rw [show ((g.blocks.toNat : Nat) : Int) = g.blocks by omega, show ((g.lbas.toNat : Nat) : Int) = g.lbas by omega, show ((g.first.toNat : Nat) : Int) = g.first by omega]
theorem zeroGeo (w : World) : Sem.run Tryz.prog (zeroValue 23) w = .ok (.agg (GeoD.zero.cells).toArray) w := by kernel_rfl
theorem eqGeo0 (blocks lbas first : Int) (hb : blocks ≠ 0) (w : World) : (Op.equalIn 10000 23 (.agg #[.int .i64 blocks, .int .i64 lbas, .int .i64 first]) (.agg #[.int .i64 0, .int .i64 0, .int .i64 0])).run Tryz.prog w = .ok false w := by
  have e : false = ((blocks == 0) && ((lbas == 0) && ((first == 0) && true))) := by simp [hb]
  rw [e]
  refine eq_struct (d := 9999) Tryz.underlying23 (by kernel_rfl) ?_
  refine eqf_int (k := .i64) (d := 9998) (by decide) (by kernel_rfl) (by kernel_rfl) Tryz.underlying3 ?_
  refine eqf_int (k := .i64) (d := 9998) (by decide) (by kernel_rfl) (by kernel_rfl) Tryz.underlying3 ?_
  refine eqf_int (k := .i64) (d := 9998) (by decide) (by kernel_rfl) (by kernel_rfl) Tryz.underlying3 ?_
  exact eqf_nil
theorem results_cell1t {fn : Func} {p u : Tmp} {ty : TypeId} {cs : List Value} {d : TypeDesc} (h : fn.results = #[.cell p ty, .tmp u]) (tmps : Array Value) (w : World) {b : Nat} (hb : w.rangeAt b 0 cs) (hp : tmps.getD p undef = .pointer (some ⟨b, 0, none⟩))
    (hu : Tryz.prog.underlying ty = some d) (hd : d.isRow = true) (hi : (Tryz.prog.info? ty).map (·.size) = some cs.length) :
    (results fn tmps).run Tryz.prog w = .ok (.tuple #[.agg cs.toArray, tmps.getD u undef]) w := by
  have e := run_loadVar_mid (P := Tryz.prog) w b 0 ty cs _ hb hu hd hi
  rw [results_cell_tmp h, hp]
  simp only [asAddr, Sem.run_pure, Result.andThen_ok, e]
set_option maxHeartbeats 4000000 in
theorem geomTake_walk (g : GeoD) (s : ByteArray) (w : World) (ht : Txt s (geoL g)) (hg : GeoOk g) :
    Calls Tryz.prog 423 #[.string s] w fun e w' => e = .returned (.tuple #[g.v, .int .i64 0]) ∧ Below w.heap.size w w' := by
  have hu0 := geoL_unpack hg
  rw [← show s.data.toList = _ from ht] at hu0
  have hs : s.size = 12 := by rw [ht.size, geoL_length]
  obtain ⟨blocks, lbas, first⟩ := g
  have HU0 := Lib.hid hu0
  have HT := Lib.hid ht
  have HG := Lib.hid hg
  have hb0 : blocks ≠ 0 := by have := hg.b0; simp only at this; omega
  have HQ := Lib.hid (eqGeo0 blocks lbas first hb0)
  clear hu0 ht hg hb0
  go_enter Tryz.func423, Tryz.ntmps423
  go_wp2_with (first
    | ((with_reducible refine wpList_alloc_new 23 _ zeroGeo (some 2) ?hgd ?ho ?hd ?_); (case hgd => rfl); (case ho => rfl); (case hd => rfl); (intro b2 w1 l1 B1 e1 z1))
    | fail)
  refine (geomWidths_walk _).mono ?_
  rintro e w2 ⟨⟨vw, rfl, hvw⟩, hb2⟩
  have HB2 := Lib.hid (B1.below hb2 z1)
  have HW2 := Lib.hid ((e1.mono l1).trans (hb2.mono (Nat.le_trans l1 (Nat.le_of_lt z1))))
  have HL := Lib.hid l1
  have HVW := Lib.hid hvw
  clear B1 e1 z1 hb2 hvw l1
  go_wp2_with fail
  refine (unpack_walk vw [4, 4, 4] s _ HVW.out (by intro k a h; match k, h with | 0, h => simp at h; omega | 1, h => simp at h; omega | 2, h => simp at h; omega | k + 3, h => simp at h) (by rw [hs]; rfl) (by decide) (by decide)).mono ?_
  rintro e w3 ⟨he, hb3⟩
  rcases he with ⟨ns, vo, hu, rfl, hown, _⟩ | ⟨hu, _⟩
  rotate_left
  · exact absurd (HU0.out.symm.trans hu) (by simp)
  obtain rfl : [blocks, lbas, first] = ns := Option.some.inj (HU0.out.symm.trans hu)
  obtain ⟨gr, cap, z, rfl, hcap, hgg, hblk⟩ := own_split hown (by simp)
  have HB3 := Lib.hid (HB2.out.below hb3 HB2.out.lt)
  have HW3 := Lib.hid (HW2.out.trans (hb3.mono HW2.out.size))
  have i0 : w3.cell? ⟨gr, 0, none⟩ = some (.int .i64 blocks) := hblk.cell (i := 0) rfl
  have i1 : w3.cell? ⟨gr, 1, none⟩ = some (.int .i64 lbas) := hblk.cell (i := 1) rfl
  have i2 : w3.cell? ⟨gr, 2, none⟩ = some (.int .i64 first) := hblk.cell (i := 2) rfl
  have hgD : gr < w3.heap.size := hblk.lt
  clear hb3 hu hown hcap hgg hblk
  go_wp2_with fail
  go_region_held3 (fun w' => w'.cell? ⟨gr, 0, none⟩ = some (.int .i64 blocks) ∧ w'.cell? ⟨gr, 1, none⟩ = some (.int .i64 lbas) ∧ w'.cell? ⟨gr, 2, none⟩ = some (.int .i64 first)) (go_keep) (fail)
  all_goals
    have B6 : Blk (w3.alloc (Obj.cells #[.int .i64 blocks, .int .i64 lbas, .int .i64 first] 23)).drew w3.heap.size (GeoD.cells ⟨blocks, lbas, first⟩) 23 := Blk.new w3 (GeoD.cells ⟨blocks, lbas, first⟩) 23
    have hb6 : Below w3.heap.size w3 (w3.alloc (Obj.cells #[.int .i64 blocks, .int .i64 lbas, .int .i64 first] 23)).drew := ((Below.refl _ _).alloc (Nat.le_refl _) _).drew
    obtain ⟨w6, hw6⟩ : ∃ W, (w3.alloc (Obj.cells #[.int .i64 blocks, .int .i64 lbas, .int .i64 first] 23)).drew = W := ⟨_, rfl⟩
    rw [hw6] at B6 hb6 ⊢
    have HB6 := Lib.hid (HB3.out.below hb6 HB3.out.lt)
    have HW6 := Lib.hid (HW3.out.trans (hb6.mono HW3.out.size))
    have H6 := Lib.hid B6
    clear hw6 B6 hb6 i0 i1 i2 hgD
    go_wp2_with ((with_reducible refine wpList_load_blk 23 (.tmp 6) w3.heap.size (GeoD.cells ⟨blocks, lbas, first⟩) 23 _ H6.out Tryz.underlying23 rfl sizeGeo ?hgd ?ho ?hx ?_); (case hgd => rfl); (case ho => rfl); (case hx => rfl))
    refine (geomPut_walk ⟨blocks, lbas, first⟩ _ HG.out).mono ?_
    rintro e w7 ⟨r, rfl, tr, hb7⟩
    obtain rfl : r = s := tr.eq HT.out
    have HB7 := Lib.hid (HB6.out.below hb7 HB6.out.lt)
    have HW7 := Lib.hid (HW6.out.trans (hb7.mono HW6.out.size))
    have H7 := Lib.hid (H6.out.below hb7 H6.out.lt)
    clear hb7 tr
    go_wp2_with (first
      | ((with_reducible refine wpList_load_met 23 (.tmp 6) w3.heap.size 0 (GeoD.cells ⟨blocks, lbas, first⟩) _ (some 41) H7.out.range Tryz.underlying23 rfl sizeGeo ?hg ?ho ?hds ?hx ?_); (case ho => rfl); (case hg => rfl); (case hds => rfl); (case hx => rfl))
      | ((with_reducible refine wpList_eq_agg 23 23 (.tmp 41) (.tmp 42) #[.int .i64 blocks, .int .i64 lbas, .int .i64 first] #[.int .i64 0, .int .i64 0, .int .i64 0] false (some 43) (by kernel_rfl) (HQ.out _) ?hg ?ho ?hd ?hx ?hy ?_); (case hg => rfl); (case ho => rfl); (case hd => rfl); (case hx => rfl); (case hy => rfl))
      | ((with_reducible refine wpList_load_blk 23 (.tmp 6) w3.heap.size (GeoD.cells ⟨blocks, lbas, first⟩) 23 _ H7.out Tryz.underlying23 rfl sizeGeo ?hgd ?ho ?hx ?_); (case hgd => rfl); (case ho => rfl); (case hx => rfl))
      | ((with_reducible refine wpList_store_new 23 (.tmp 2) (.tmp 46) b2 GeoD.zero.cells (GeoD.cells ⟨blocks, lbas, first⟩) 23 HB7.out rfl sizeGeo (geo_one _) ?hgd ?ho ?hx ?hy ?_); (case hgd => rfl); (case ho => rfl); (case hx => rfl); (case hy => rfl); (intro w9 B9 o9))
      | fail)
    (try simp only [Exit.inBlock, Exit.then]); refine bodyPost_ret (results_cell1t rfl _ _ B9.range rfl Tryz.underlying23 rfl sizeGeo) rfl ⟨rfl, o9.below HW7.out HL.out⟩
end Go.Proofs.YtppdboadjefieaaGreat
