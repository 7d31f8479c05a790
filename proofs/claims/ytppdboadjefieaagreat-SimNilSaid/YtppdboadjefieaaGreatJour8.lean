/- Open (chapter 25), of a disk that is right. -/
import Derived.Test.YtppdboadjefieaaGreatJour7
import Derived.Test.YtppdboadjefieaaGreatJour5
namespace Go.Proofs.YtppdboadjefieaaGreat
set_option linter.unusedSimpArgs false
set_option linter.unusedVariables false
open Go Go.RowKit
set_option linter.unusedVariables false
set_option maxRecDepth 100000

theorem results_tmp4 {fn : Func} {t u v x : Tmp} (h : fn.results = #[.tmp t, .tmp u, .tmp v, .tmp x]) (tmps : Array Value) (P : Program) (w : World) :
    (results fn tmps).run P w = .ok (.tuple #[tmps.getD t undef, tmps.getD u undef, tmps.getD v undef, tmps.getD x undef]) w := by
  simp [results, h, Sem.run_bind]
theorem builtJourS (p : Option Addr) (db : Nat) (s : SupD) : Tryz.prog.built 137 [(0, .pointer p), (1, .pointer (some ⟨db, 0, none⟩)), (2, .agg s.cells.toArray)] = some (jourCells (.pointer p) db s).toArray := by obtain ⟨gen, tail, epoch, clock, ⟨blocks, lbas, first⟩⟩ := s; kernel_rfl
/-- The blocks of the data that a disk shows, from the first one. -/
def tailV (d : DiskD) (k : Nat) : List ByteArray := (List.range k).map fun (i : Nat) => d.shown (4 + (i : Int))
theorem tailV_length (d : DiskD) (k : Nat) : (tailV d k).length = k := by simp [tailV]
theorem tailV_succ (d : DiskD) (k : Nat) : tailV d (k + 1) = tailV d k ++ [d.shown (4 + (k : Int))] := by simp [tailV, List.range_succ]
set_option maxHeartbeats 4000000 in
theorem open_walk (db n t ep : Nat) (gen clock lbas first : Int) (key : ByteArray) (d : DiskD) (w : World) (h : DiskAt w db d) (hso : SupOk (⟨gen, (t : Int), (ep : Int), clock, ⟨(n : Int), lbas, first⟩⟩ : SupD))
    (hd : d.down = false) (hc : d.cs.length ≤ 4096) (hb : d.bs.length ≤ 1024) (hn : d.bs.length = n) (hsh : ∀ i, 4 + t ≤ i → i < n → d.shown i = (⟨(List.replicate 4096 0).toArray⟩ : ByteArray)) (hst : (if ep % 2 = 0 then d.shown 3 else d.shown 2) = (⟨(List.replicate 4096 0).toArray⟩ : ByteArray))
    (hF : ∀ wx, DiskAt wx db d → Calls Tryz.prog 262 #[.pointer (some ⟨db, 0, none⟩)] wx fun e w' => e = .returned (.tuple #[(⟨gen, (t : Int), (ep : Int), clock, ⟨(n : Int), lbas, first⟩⟩ : SupD).v, .string key, .int .i64 0]) ∧ Below wx.heap.size wx w') :
    Calls Tryz.prog 168 #[.pointer (some ⟨db, 0, none⟩)] w fun e w' => (∃ jb sb lv, e = .returned (.tuple #[.pointer (some ⟨jb, 0, none⟩), lv, .string key, .int .i64 0]) ∧ Blk w' jb (jourCells (.pointer (some ⟨sb, 0, none⟩)) db (⟨gen, (t : Int), (ep : Int), clock, ⟨(n : Int), lbas, first⟩⟩ : SupD)) 137 ∧ Blk w' sb (spaceCells ⟨(n : Int), lbas, first⟩ (t : Int)) 215 ∧ w'.ownsRow w.heap.size 9 1 lv t ((tailV d t).map .string) ∧ w.heap.size ≤ sb ∧ sb < jb) ∧ Below w.heap.size w w' := by
  obtain ⟨i0, hi, hz0, hz1, hz2⟩ := info_parts infoStr8
  have hn0 : (d.bs.length : Int) = (n : Int) := by omega
  have hnz : decide ((n : Int) = 0) = false := by have := hso.geo.b0; simp only at this; exact decide_eq_false (by omega)
  have hnz2 : ((n : Int) == 0) = false := by have := hso.geo.b0; simp only at this; exact beq_eq_false_iff_ne.2 (by omega)
  obtain ⟨s, Hs⟩ : ∃ s, Hid (s = (⟨gen, (t : Int), (ep : Int), clock, ⟨(n : Int), lbas, first⟩⟩ : SupD)) := ⟨_, rfl⟩
  have HST0 := Lib.hid (show s.tail = (t : Int) by rw [Hs.out])
  have HSG := Lib.hid (show s.geo = (⟨(n : Int), lbas, first⟩ : GeoD) by rw [Hs.out])
  rw [← Hs.out] at hF
  have HN0 := Lib.hid hn0
  have HHw := Lib.hid h
  have HSO := Lib.hid hso
  have HD := Lib.hid hd
  have HC := Lib.hid hc
  have HB := Lib.hid hb
  have HN := Lib.hid hn
  have HSH := Lib.hid hsh
  have HST := Lib.hid hst
  have HFW := Lib.hid hF
  have HT := Lib.hid (show 4 + t ≤ n from by have := hso.t1; simp only at this; omega)
  have HN1 := Lib.hid (show n ≤ 1024 from by omega)
  clear h hso hd hc hb hn hsh hst hF hn0
  go_enter Tryz.func168, Tryz.ntmps168
  go_wp2_with fail
  refine (dsize_walk db d _ HHw.out).mono ?_
  rintro e w' ⟨rfl, rfl⟩
  rw [HN0.out]
  go_wp2_with fail
  refine (ddown_walk db d _ HHw.out).mono ?_
  rintro e w' ⟨rfl, rfl⟩
  rw [HD.out]
  go_wp2_with fail
  refine (HFW.out _ HHw.out).mono ?_
  rintro e w1 ⟨rfl, hb1⟩
  have HBE1 := Lib.hid hb1
  have HD1 := Lib.hid (HHw.out.below hb1)
  clear hb1
  go_wp2_with (first
    | ((with_reducible refine wpList_alloc_new 135 _ zeroSup (some 6) ?hgd ?ho ?hd ?_); (case hgd => rfl); (case ho => rfl); (case hd => rfl); (intro b6 w2 l2 B2 e2 z2))
    | ((with_reducible refine wpList_store_new 135 (.tmp 6) (.tmp 27) b6 SupD.zero.cells s.cells 135 B2 rfl sizeSup (sup_one _) ?hgd ?ho ?hx ?hy ?_); (case hgd => rfl); (case ho => rfl); (case hx => rfl); (case hy => rfl); (intro w3 B3 o3); (have q1 := B3.cell (i := 1) rfl))
    | ((with_reducible refine wpList_load_met 23 (.tmp 34) b6 4 s.geo.cells _ (some 35) (sup_geo B3) Tryz.underlying23 rfl sizeGeo ?hg ?ho ?hds ?hx ?_); (case ho => rfl); (case hg => rfl); (case hds => rfl); (case hx => rfl))
    | fail)
  refine (spaceNew_walk s.geo s.tail _ (by rw [HSG.out]; exact HSO.out.geo) (by rw [HST0.out]; omega) (by have := HT.out; rw [HST0.out, HSG.out]; show (t : Int) ≤ (n : Int) - 4; omega)).mono ?_
  rintro e w4 ⟨⟨sb, rfl, Bs, ls⟩, hb4⟩
  have hb3 : Below w1.heap.size w1 w3 := o3.below (e2.mono l2) l2
  have hw1 := HBE1.out.size
  have hb34 := hb3.trans (hb4.mono hb3.size)
  have HLS := Lib.hid (show w.heap.size ≤ sb from Nat.le_trans hw1 (Nat.le_trans hb3.size ls))
  have HL6 := Lib.hid (show w.heap.size ≤ b6 from Nat.le_trans hw1 l2)
  have HB6 := Lib.hid (B3.below hb4 B3.lt)
  have HBS := Lib.hid Bs
  have HD4 := Lib.hid (HD1.out.below hb34)
  have HBE4 := Lib.hid (HBE1.out.trans (hb34.mono hw1))
  clear q1 B2 B3 o3 e2 z2 l2 Bs ls hb4 hb3 hb34 hw1
  go_wp2_with (first
    | ((with_reducible refine wpList_load_blk 135 (.tmp 6) b6 s.cells 135 _ HB6.out Tryz.underlying135 rfl sizeSup ?hgd ?ho ?hx ?_); (case hgd => rfl); (case ho => rfl); (case hx => rfl))
    | ((with_reducible refine wpList_build_eq 137 ?parts (jourCells (.pointer (some ⟨sb, 0, none⟩)) db s) ?hg ?ho ?hf ?_); (case hg => rfl); (case ho => rfl); (case hf => (obtain ⟨gen, tail, epoch, clock, ⟨blocks, lbas, first⟩⟩ := s; kernel_rfl)))
    | ((with_reducible refine wpList_box_new 137 (.tmp 44) (jourCells (.pointer (some ⟨sb, 0, none⟩)) db s) (some 45) ?hgd ?ho ?hd ?hx ?_); (case hgd => rfl); (case ho => rfl); (case hd => rfl); (case hx => rfl); (intro jb w5 l5 B5 e5 z5))
    | fail)
  have hb5 : Below w4.heap.size w4 w5 := e5.mono l5
  have hw4 := HBE4.out.size
  have HSJ := Lib.hid (show sb < jb from Nat.lt_of_lt_of_le HBS.out.lt l5)
  have HJ5 := Lib.hid B5
  have HS5 := Lib.hid (HBS.out.below hb5 HBS.out.lt)
  have HB65 := Lib.hid (HB6.out.below hb5 HB6.out.lt)
  have HD5 := Lib.hid (HD4.out.below hb5)
  have HBE5 := Lib.hid (HBE4.out.trans (hb5.mono hw4))
  clear B5 e5 z5 l5 hb5 hw4
  refine (right_walk jb db n t ep (.pointer (some ⟨sb, 0, none⟩)) gen clock lbas first d _ HD5.out (by rw [← Hs.out]; exact HJ5.out) HSO.out.geo HD.out HC.out HB.out HN.out (by have := HSO.out.e1; simp only at this; omega) HT.out HSH.out HST.out).mono ?_
  rintro e w6 ⟨rfl, hb6⟩
  have hw5 := HBE5.out.size
  have HJ6 := Lib.hid (HJ5.out.below hb6 HJ5.out.lt)
  have HS6 := Lib.hid (HS5.out.below hb6 HS5.out.lt)
  have HB66 := Lib.hid (HB65.out.below hb6 HB65.out.lt)
  have HD6 := Lib.hid (HD5.out.below hb6)
  have HBE6 := Lib.hid (HBE5.out.trans (hb6.mono hw5))
  have q1 : w6.cell? ⟨b6, 1, none⟩ = some (.int .i64 (t : Int)) := by rw [← HST0.out]; exact HB66.out.cell (i := 1) rfl
  clear hb6 hw5
  go_wp2_with fail
  clear q1
  go_loopw [13, 53] (fun lv v wr => ∃ k : Nat, k ≤ t ∧ v = .int .i64 k ∧ wr.ownsRow w6.heap.size 9 1 lv k ((tailV d k).map .string) ∧ Below w6.heap.size w6 wr) (fun _ v _ => t - (intOf v).toNat)
  case atStart => exact ⟨0, Nat.zero_le _, rfl, World.ownsRow_nil _ _ _ _, Below.refl _ _⟩
  case round =>
    obtain ⟨k, hk, rfl, hown, hbel⟩ := hrel
    obtain ⟨lp, lc, rfl⟩ := own_shape hown
    have HOWN := Lib.hid hown
    have HBEL := Lib.hid hbel
    have HJr := Lib.hid (HJ6.out.below hbel HJ6.out.lt)
    have HDr := Lib.hid (HD6.out.below hbel)
    clear hown hbel
    by_cases hlt : k < t
    · have hlt' : (k : Int) < (t : Int) := by omega
      have hk9 : k ≤ 1024 := by have := HN1.out; have := HT.out; omega
      go_wp2_with fail
      refine (place_walk jb db (.pointer (some ⟨sb, 0, none⟩)) (⟨gen, (t : Int), (ep : Int), clock, ⟨(n : Int), lbas, first⟩⟩ : SupD) (k : Int) _ (by rw [← Hs.out]; exact HJr.out) HSO.out.geo (by omega) (by have := HT.out; show (k : Int) < (n : Int) - 4; omega)).mono ?_
      rintro e wa ⟨rfl, hba⟩
      have HDa := Lib.hid (HDr.out.below hba)
      have HOWNa := Lib.hid (own_below hba HOWN.out)
      have HBELa := Lib.hid (HBEL.out.trans (hba.mono HBEL.out.size))
      clear hba
      obtain ⟨m, hm⟩ : ∃ m, 4 + k = m := ⟨_, rfl⟩
      have e4 : (4 + (k : Int)) = (m : Int) := by omega
      rw [e4]
      have HM := Lib.hid hm
      have HE4 := Lib.hid e4
      clear hm e4
      go_wp2_with fail
      refine (dread_walk db d _ HDa.out HD.out m (by have := HT.out; have := HN.out; have := HM.out; omega) HC.out HB.out).mono ?_
      rintro e w' ⟨rfl, rfl⟩
      obtain ⟨sh, hsh⟩ : ∃ s, d.shown (m : Int) = s := ⟨_, rfl⟩
      rw [hsh]
      have HSHk := Lib.hid hsh
      clear hsh
      have own1 := HOWNa.out
      go_wp2_with (first
        | ((with_reducible refine wpList_slice_new 24 9 1 ?parts66 [.string sh] (.string ⟨#[]⟩) 1 16 (some 66) Tryz.underlying24 infoStr8 (by omega) (by omega) ?hgd ?ho ?hd ?hf ?_); (case hgd => rfl); (case ho => rfl); (case hd => rfl); (case hf => kernel_rfl); (intro g2 w7 l7 B7 e7 z7); (have own2 := own_below (e7.mono l7) own1))
        | (at_builtin; refine wpList_append_at _ _ 24 rfl rfl i0 (.string ⟨#[]⟩) 16 Tryz.underlying24 hi hz0 hz1 hz2 rfl (by decide) rfl own2 ⟨g2, 0, none⟩ 1 1 [.string sh] rfl rfl (cells_add B7) (by intro v hv; simp at hv; subst hv; rfl) (by unfold maxLen; omega) (by omega) (by have := HBELa.out.size; have := z7; omega) ?_; intro v' w8 own3 grow3 near3)
        | fail)
      have hbz : Below w6.heap.size w6 w7 := HBELa.out.trans ((e7.mono l7).mono HBELa.out.size)
      have HBEz := Lib.hid (hbz.grown grow3 hbz.size (fun j hj => (own2.lt j hj).1))
      have HOWNz := Lib.hid own3
      clear hbz grow3 near3 own3 own2 own1 B7 e7 z7 l7
      go_roundw
      case rel => exact ⟨k + 1, by omega, by go_num, by rw [tailV_succ, List.map_append]; rw [show d.shown (4 + (k : Int)) = sh by rw [HE4.out]; exact HSHk.out]; exact HOWNz.out, HBEz.out⟩
      case measure => simp [intOf]; omega
    · obtain rfl : k = t := by omega
      go_wp2_with fail
      (try simp only [Exit.inBlock, Exit.then]); refine bodyPost_ret (results_tmp4 rfl _ _ _) rfl ⟨⟨jb, sb, _, rfl, by rw [← Hs.out]; exact HJr.out, by rw [← HSG.out, ← HST0.out]; exact HS6.out.below HBEL.out HS6.out.lt, own_base HOWN.out HBE6.out.size, HLS.out, HSJ.out⟩, HBE6.out.trans (HBEL.out.mono HBE6.out.size)⟩
end Go.Proofs.YtppdboadjefieaaGreat
