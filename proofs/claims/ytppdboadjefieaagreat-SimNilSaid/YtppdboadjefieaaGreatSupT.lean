/- The superblock of bytes (chapter 10): Take. -/
import Derived.Test.YtppdboadjefieaaGreatSup
import Derived.Test.YtppdboadjefieaaGreatGeomT
import Derived.Deep.RegionWith
namespace Go.Proofs.YtppdboadjefieaaGreat
set_option linter.unusedSimpArgs false
set_option linter.unusedVariables false
open Go Go.RowKit
set_option linter.unusedVariables false
set_option maxRecDepth 100000

theorem zeroSup (w : World) : Sem.run Tryz.prog (zeroValue 135) w = .ok (.agg (SupD.zero.cells).toArray) w := by kernel_rfl
theorem unpack_yes {ws : List Nat} {l : List UInt8} {w w' : World} {e : Ending} {ns : List Int} (h : UnpackEnd ws l w w' e) (hu : unpackS ws l = some ns) : ∃ vo, e = .returned (.tuple #[vo, .int .i64 0]) ∧ w'.ownsRow w.heap.size 3 1 vo ns.length (ns.map (Value.int .i64)) := by
  rcases h with ⟨ns', vo, h1, h2, h3, _⟩ | ⟨h1, _⟩
  · obtain rfl : ns = ns' := Option.some.inj (hu.symm.trans h1)
    exact ⟨vo, h2, h3⟩
  · rw [hu] at h1; cases h1
def numsS (s : SupD) : List UInt8 := beBytes 8 s.gen.toNat ++ beBytes 4 s.tail.toNat ++ beBytes 4 s.epoch.toNat ++ beBytes 8 s.clock.toNat
theorem numsS_length (s : SupD) : (numsS s).length = 24 := by unfold numsS; simp [beBytes_length]
theorem supL_split (s : SupD) : ∃ t, supL s = markS ++ (numsS s ++ (geoL s.geo ++ t)) := by
  refine ⟨sha (supHead s) ++ List.replicate (4096 - (supHead s ++ sha (supHead s)).length) 0, ?_⟩
  have h : supHead s = markS ++ (numsS s ++ geoL s.geo) := by unfold supHead numsS; simp only [List.append_assoc]
  unfold supL fillL
  rw [List.append_assoc]
  conv => lhs; lhs; rw [h]
  simp only [List.append_assoc]
theorem numsS_unpack {s : SupD} (h : SupOk s) : unpackS [8, 4, 4, 8] (numsS s) = some [s.gen, s.tail, s.epoch, s.clock] := by
  obtain ⟨⟨k1, k2, k3, k4, k5, k6⟩, h1, h2, h3, h4, h5, h6, h7, h8⟩ := h
  have p4 : (256 : Nat) ^ 4 = 4294967296 := rfl
  have p8 : (256 : Nat) ^ 8 = 18446744073709551616 := rfl
  have e : numsS s = beBytes 8 s.gen.toNat ++ (beBytes 4 s.tail.toNat ++ (beBytes 4 s.epoch.toNat ++ (beBytes 8 s.clock.toNat ++ []))) := by unfold numsS; simp
  rw [e, unpackS_cons (by decide) (by decide) (by omega) (by omega), unpackS_cons (by decide) (by decide) (by omega) (by omega), unpackS_cons (by decide) (by decide) (by omega) (by omega), unpackS_cons (by decide) (by decide) (by omega) (by omega), unpackS_nil]
  simp only [Option.map_some]
  rw [show ((s.gen.toNat : Nat) : Int) = s.gen by omega, show ((s.tail.toNat : Nat) : Int) = s.tail by omega, show ((s.epoch.toNat : Nat) : Int) = s.epoch by omega, show ((s.clock.toNat : Nat) : Int) = s.clock by omega]
theorem supL_mark {block : ByteArray} {s : SupD} (ht : Txt block (supL s)) : block.extract 0 9 = ⟨#[107, 101, 101, 112, 115, 97, 107, 101, 49]⟩ := by
  obtain ⟨t, h⟩ := supL_split s
  rw [h] at ht
  exact ((ht.extract 0 9).cast (by rw [List.drop_zero, take_app (show markS.length = 9 from rfl)])).eq (show Txt (⟨#[107, 101, 101, 112, 115, 97, 107, 101, 49]⟩ : ByteArray) markS from rfl)
theorem supL_rest {block : ByteArray} {s : SupD} (ht : Txt block (supL s)) : ∃ t, Txt (block.extract 9 4096) (numsS s ++ (geoL s.geo ++ t)) := by
  obtain ⟨t, h⟩ := supL_split s
  have hl : (supL s).length = 4096 := supL_length s
  refine ⟨t, (ht.extract 9 4096).cast ?_⟩
  rw [List.take_of_length_le (by rw [hl]; exact Nat.le_refl _), h, drop_app (show markS.length = 9 from rfl)]
theorem supNought_walk (w : World) :
    Calls Tryz.prog 389 #[.string (⟨(List.replicate 4096 0).toArray⟩ : ByteArray)] w fun e w' => e = .returned (.tuple #[SupD.zero.v, .int .i64 3]) ∧ Below w.heap.size w w' := by
  obtain ⟨z, hz⟩ : ∃ z, (⟨(List.replicate 4096 0).toArray⟩ : ByteArray) = z := ⟨_, rfl⟩
  have hsz : z.size = 4096 := by rw [← hz]; simp [ByteArray.size]
  have hsi : (z.size : Int) = 4096 := by omega
  have hm : (z.extract 0 9) ≠ ⟨#[107, 101, 101, 112, 115, 97, 107, 101, 49]⟩ := by
    intro h
    have h1 := congrArg (fun b : ByteArray => b.data.toList) h
    have h2 : Txt (z.extract 0 9) (List.replicate 9 0) := ((show Txt z (List.replicate 4096 0) by rw [← hz]; exact Txt.mk _).extract 0 9).cast (by decide)
    rw [show (z.extract 0 9).data.toList = _ from h2] at h1
    exact absurd h1 (by decide)
  have hm2 : ((z.extract 0 9).toList == ([107, 101, 101, 112, 115, 97, 107, 101, 49] : List UInt8)) = false := by
    rw [beq_eq_false_iff_ne]
    intro h
    refine hm (ByteArray.ext (Array.toList_inj.1 ?_))
    rw [← Lib.toList_data]
    exact h
  rw [hz]
  clear hz hm
  go_enter Tryz.func389, Tryz.ntmps389
  go_wp2_with (first
    | ((with_reducible refine wpList_alloc_new 135 _ zeroSup (some 2) ?hgd ?ho ?hd ?_); (case hgd => rfl); (case ho => rfl); (case hd => rfl); (intro b2 w1 l1 B1 e1 z1))
    | ((with_reducible refine wpList_store_new 135 (.tmp 2) (.tmp 23) b2 SupD.zero.cells SupD.zero.cells 135 B1 rfl sizeSup (sup_one _) ?hgd ?ho ?hx ?hy ?_); (case hgd => rfl); (case ho => rfl); (case hx => rfl); (case hy => rfl); (intro w9 B9 o9))
    | fail)
  (try simp only [Exit.inBlock, Exit.then]); refine bodyPost_ret (results_cell1t rfl _ _ B9.range rfl Tryz.underlying135 rfl sizeSup) rfl ⟨rfl, o9.below (e1.mono l1) l1⟩
theorem wsS_row : (([8, 4, 4, 8] : List Nat).map (fun (a : Nat) => (a : Int))) = widths10 := rfl
set_option maxHeartbeats 8000000 in
theorem supTake_walk (s : SupD) (block : ByteArray) (w : World) (ht : Txt block (supL s)) (hs : SupOk s) :
    Calls Tryz.prog 389 #[.string block] w fun e w' => e = .returned (.tuple #[s.v, .int .i64 0]) ∧ Below w.heap.size w w' := by
  have hsz : block.size = 4096 := by rw [ht.size, supL_length]
  have hsi : (block.size : Int) = 4096 := by omega
  have hm := supL_mark ht
  have hm2 : ((block.extract 0 9).toList == ([107, 101, 101, 112, 115, 97, 107, 101, 49] : List UInt8)) = true := by
    rw [hm, Lib.toList_data]; decide
  clear hm
  obtain ⟨tl, htl⟩ := supL_rest ht
  have HN := Lib.hid (numsS_unpack hs)
  have HT := Lib.hid ht
  have HS := Lib.hid hs
  obtain ⟨rest, hrest⟩ : ∃ r, block.extract 9 4096 = r := ⟨_, rfl⟩
  rw [hrest] at htl
  have hrs : rest.size = 4087 := by rw [← hrest, ByteArray.size_extract, hsz]; decide
  have hrsi : (rest.size : Int) = 4087 := by omega
  have ht1 : Txt (rest.extract 0 24) (numsS s) := (htl.extract 0 24).cast (by rw [List.drop_zero, take_app (numsS_length s)])
  have ht2 : Txt (rest.extract 24 36) (geoL s.geo) := (htl.extract 24 36).cast (by
    rw [show (36 : Nat) = 24 + 12 from rfl, List.drop_take, show 24 + 12 - 24 = 12 from rfl, drop_app (numsS_length s), take_app (geoL_length s.geo)])
  have HT1 := Lib.hid ht1
  have HT2 := Lib.hid ht2
  have HR := Lib.hid hrest
  clear ht hs htl ht1 ht2 hrest
  go_enter Tryz.func389, Tryz.ntmps389
  go_wp2_with (first
    | ((with_reducible refine wpList_alloc_new 135 _ zeroSup (some 2) ?hgd ?ho ?hd ?_); (case hgd => rfl); (case ho => rfl); (case hd => rfl); (intro b2 w1 l1 B1 e1 z1))
    | fail)
  refine (supWidths_walk _).mono ?_
  rintro e w2 ⟨⟨v2, rfl, hv2⟩, hb2⟩
  have HB2 := Lib.hid (B1.below hb2 z1)
  have HW2 := Lib.hid ((e1.mono l1).trans (hb2.mono (Nat.le_trans l1 (Nat.le_of_lt z1))))
  have HL := Lib.hid l1
  clear B1 e1 z1 hb2 l1
  obtain ⟨g3, o3, c3, rfl, hg3, hc3⟩ := hv2.at (by decide)
  rw [show widths10.length = 4 from rfl]
  have HC3 := Lib.hid hc3
  clear hc3 hv2
  go_wp2_with fail
  go_loop [4, 26] (fun x i => ∃ k : Nat, k ≤ 4 ∧ i = .int .i64 k ∧ x = .int .i64 ((sumTo [8, 4, 4, 8] k : Nat) : Int)) (fun _ i => 4 - (intOf i).toNat)
  case atStart => exact ⟨0, by omega, rfl, rfl⟩
  case round =>
    obtain ⟨k, hk, rfl, rfl⟩ := hrel
    obtain ⟨x, hx⟩ : ∃ x, x = sumTo [8, 4, 4, 8] k := ⟨_, rfl⟩
    rw [← hx]
    have hx8 : x ≤ 24 := by have := sumTo_le [8, 4, 4, 8] k; rw [← hx] at this; exact this
    have HX := Lib.hid hx
    clear hx
    by_cases hlt : k < 4
    · have hlt' : (k : Int) < 4 := by omega
      have h00 : (0 : Int) ≤ (k : Int) := by omega
      obtain ⟨a, ha⟩ : ∃ a, ([8, 4, 4, 8] : List Nat)[k]? = some a := ⟨_, List.getElem?_eq_getElem (by exact hlt)⟩
      have hca : w2.cell? ⟨g3, o3 + k, none⟩ = some (.int .i64 (a : Int)) := HC3.out k a (by rw [← wsS_row, List.getElem?_map, ha]; rfl)
      have hsu := sumTo_succ ha
      rw [← HX.out] at hsu
      have HSU := Lib.hid hsu
      have ha8 : a ≤ 8 := by
        have : ∀ (k a : Nat), ([8, 4, 4, 8] : List Nat)[k]? = some a → a ≤ 8 := by
          intro k a h
          match k, h with
          | 0, h => simp at h; omega
          | 1, h => simp at h; omega
          | 2, h => simp at h; omega
          | 3, h => simp at h; omega
          | k + 4, h => simp at h
        exact this k a ha
      clear hsu ha
      go_wp2_with fail
      go_round
      case rel => exact ⟨k + 1, by omega, by go_num, by rw [HSU.out]; go_num⟩
      case measure => simp [intOf]; omega
    · obtain rfl : k = 4 := by omega
      obtain rfl : x = 24 := HX.out
      clear HX hx8 hlt
      go_wp2_with fail
      rw [HR.out]
      go_region_with ((first
        | (go_at_call 324; refine (supWidths_walk _).mono ?_; rintro e wA ⟨⟨vA, rfl, hvA⟩, hbA⟩)
        | (go_at_call 253; refine (unpack_walk vA [8, 4, 4, 8] (rest.extract 0 24) _ hvA (by intro k a h; match k, h with | 0, h => simp at h; omega | 1, h => simp at h; omega | 2, h => simp at h; omega | 3, h => simp at h; omega | k + 4, h => simp at h) (by rw [HT1.out.size, numsS_length]; rfl) (by decide) (by decide)).mono ?_; rintro e wB ⟨he, hbB⟩; obtain ⟨vo, rfl, hown⟩ := unpack_yes he (by rw [show (rest.extract 0 24).data.toList = _ from HT1.out]; exact HN.out); clear he)
        | fail))
      have hbAB : Below w2.heap.size w2 wB := ((Below.refl w2.heap.size w2).drew.trans hbA).trans (hbB.mono hbA.size)
      have HBB := Lib.hid (HB2.out.below hbAB HB2.out.lt)
      have HWB := Lib.hid (HW2.out.trans (hbAB.mono HW2.out.size))
      obtain ⟨gr, cap, z, rfl, hcap, hgg, hblk⟩ := own_split hown (by simp)
      have HBLK := Lib.hid hblk
      rw [show [s.gen, s.tail, s.epoch, s.clock].length = 4 from rfl]
      clear hbAB hbA hbB hvA hown hcap hgg hblk
      go_wp2_with fail
      refine (geomTake_walk s.geo (rest.extract 24 36) _ HT2.out HS.out.geo).mono ?_
      rintro e wC ⟨rfl, hbC⟩
      have HBC := Lib.hid (HBB.out.below hbC HBB.out.lt)
      have HWC := Lib.hid (HWB.out.trans (hbC.mono HWB.out.size))
      have HLC := Lib.hid (HBLK.out.below hbC HBLK.out.lt)
      clear hbC
      obtain ⟨gen, tail, epoch, clock, ⟨blocks, lbas, first⟩⟩ := s
      go_wp2_with (first
        | ((with_reducible refine wpList_alloc_new 23 _ zeroGeo (some 10) ?hgd ?ho ?hd ?_); (case hgd => rfl); (case ho => rfl); (case hd => rfl); (intro b10 wD lD BD eD zD))
        | ((with_reducible refine wpList_store_new 23 (.tmp 10) (.tmp 51) b10 GeoD.zero.cells (GeoD.cells ⟨blocks, lbas, first⟩) 23 BD rfl sizeGeo (geo_one _) ?hgd ?ho ?hx ?hy ?_); (case hgd => rfl); (case ho => rfl); (case hx => rfl); (case hy => rfl); (intro wE BE oE))
        | fail)
      have hbE : Below wC.heap.size wC wE := oE.below (eD.mono lD) lD
      have HBE := Lib.hid (HBC.out.below hbE HBC.out.lt)
      have HWE := Lib.hid (HWC.out.trans (hbE.mono HWC.out.size))
      have hle := HLC.out.below hbE HLC.out.lt
      have i0 : wE.cell? ⟨gr, 0, none⟩ = some (.int .i64 gen) := hle.cell (i := 0) rfl
      have i1 : wE.cell? ⟨gr, 1, none⟩ = some (.int .i64 tail) := hle.cell (i := 1) rfl
      have i2 : wE.cell? ⟨gr, 2, none⟩ = some (.int .i64 epoch) := hle.cell (i := 2) rfl
      have i3 : wE.cell? ⟨gr, 3, none⟩ = some (.int .i64 clock) := hle.cell (i := 3) rfl
      have j0 : wE.cell? ⟨b10, 0, none⟩ = some (.int .i64 blocks) := BE.cell (i := 0) rfl
      have j1 : wE.cell? ⟨b10, 1, none⟩ = some (.int .i64 lbas) := BE.cell (i := 1) rfl
      have j2 : wE.cell? ⟨b10, 2, none⟩ = some (.int .i64 first) := BE.cell (i := 2) rfl
      have hgD : gr < wE.heap.size := hle.lt
      have hgE : b10 < wE.heap.size := BE.lt
      clear hbE hle BD eD zD lD oE BE
      go_region_held3 (fun w' => w'.cell? ⟨gr, 0, none⟩ = some (.int .i64 gen) ∧ w'.cell? ⟨gr, 1, none⟩ = some (.int .i64 tail) ∧ w'.cell? ⟨gr, 2, none⟩ = some (.int .i64 epoch) ∧ w'.cell? ⟨gr, 3, none⟩ = some (.int .i64 clock) ∧ w'.cell? ⟨b10, 0, none⟩ = some (.int .i64 blocks) ∧ w'.cell? ⟨b10, 1, none⟩ = some (.int .i64 lbas) ∧ w'.cell? ⟨b10, 2, none⟩ = some (.int .i64 first)) (go_keep) (fail)
      all_goals
        have B12 : Blk (wE.alloc (Obj.cells #[.int .i64 gen, .int .i64 tail, .int .i64 epoch, .int .i64 clock, .int .i64 blocks, .int .i64 lbas, .int .i64 first] 135)).drew wE.heap.size (SupD.cells ⟨gen, tail, epoch, clock, ⟨blocks, lbas, first⟩⟩) 135 := Blk.new wE (SupD.cells ⟨gen, tail, epoch, clock, ⟨blocks, lbas, first⟩⟩) 135
        have hbF : Below wE.heap.size wE (wE.alloc (Obj.cells #[.int .i64 gen, .int .i64 tail, .int .i64 epoch, .int .i64 clock, .int .i64 blocks, .int .i64 lbas, .int .i64 first] 135)).drew := ((Below.refl _ _).alloc (Nat.le_refl _) _).drew
        obtain ⟨wF, hwF⟩ : ∃ W, (wE.alloc (Obj.cells #[.int .i64 gen, .int .i64 tail, .int .i64 epoch, .int .i64 clock, .int .i64 blocks, .int .i64 lbas, .int .i64 first] 135)).drew = W := ⟨_, rfl⟩
        rw [hwF] at B12 hbF ⊢
        have HBF := Lib.hid (HBE.out.below hbF HBE.out.lt)
        have HWF := Lib.hid (HWE.out.trans (hbF.mono HWE.out.size))
        have H12 := Lib.hid B12
        clear hwF B12 hbF i0 i1 i2 i3 j0 j1 j2 hgD hgE
        go_wp2_with ((with_reducible refine wpList_load_blk 135 (.tmp 12) wE.heap.size (SupD.cells ⟨gen, tail, epoch, clock, ⟨blocks, lbas, first⟩⟩) 135 _ H12.out Tryz.underlying135 rfl sizeSup ?hgd ?ho ?hx ?_); (case hgd => rfl); (case ho => rfl); (case hx => rfl))
        refine (supPut_walk ⟨gen, tail, epoch, clock, ⟨blocks, lbas, first⟩⟩ _ HS.out).mono ?_
        rintro e wG ⟨r, rfl, tr, hbG⟩
        obtain rfl : r = block := tr.eq HT.out
        have HBG := Lib.hid (HBF.out.below hbG HBF.out.lt)
        have HWG := Lib.hid (HWF.out.trans (hbG.mono HWF.out.size))
        have HG12 := Lib.hid (H12.out.below hbG H12.out.lt)
        clear hbG tr
        go_wp2_with (first
          | ((with_reducible refine wpList_load_blk 135 (.tmp 12) wE.heap.size (SupD.cells ⟨gen, tail, epoch, clock, ⟨blocks, lbas, first⟩⟩) 135 _ HG12.out Tryz.underlying135 rfl sizeSup ?hgd ?ho ?hx ?_); (case hgd => rfl); (case ho => rfl); (case hx => rfl))
          | ((with_reducible refine wpList_store_new 135 (.tmp 2) (.tmp 87) b2 SupD.zero.cells (SupD.cells ⟨gen, tail, epoch, clock, ⟨blocks, lbas, first⟩⟩) 135 HBG.out rfl sizeSup (sup_one _) ?hgd ?ho ?hx ?hy ?_); (case hgd => rfl); (case ho => rfl); (case hx => rfl); (case hy => rfl); (intro w9 B9 o9))
          | fail)
        (try simp only [Exit.inBlock, Exit.then]); refine bodyPost_ret (results_cell1t rfl _ _ B9.range rfl Tryz.underlying135 rfl sizeSup) rfl ⟨rfl, o9.below HWG.out HL.out⟩
end Go.Proofs.YtppdboadjefieaaGreat
