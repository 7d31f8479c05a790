/- A volume is mounted of a disk whose journal has no block yet (chapter 26). Versions (chapter 14): how they stand. No program in sight. Walks of record.Check, Put and the documents' Right, Put (chapter 19), of any record. -/
import Derived.Test.YtppdboadjefieaaGreatQ13
import Derived.Test.YtppdboadjefieaaGreatQ7
import Derived.Test.YtppdboadjefieaaGreatQ6
import Derived.Test.YtppdboadjefieaaGreatQ5
import Derived.Deep.RegionHeld3
import Derived.Deep.RegionWith
set_option linter.unusedSimpArgs false
set_option linter.unusedVariables false
namespace Go.Proofs.YtppdboadjefieaaGreat
open Go Go.RowKit
set_option maxRecDepth 100000

theorem jour_sup {w : World} {jb db : Nat} {sv : Value} {s : SupD} {t : TypeId} (h : Blk w jb (jourCells sv db s) t) : w.rangeAt jb 2 s.cells := by
  intro j v hv
  match j, hv with
  | 0, hv => simp [SupD.cells] at hv; subst hv; exact h.cell (i := 2) rfl
  | 1, hv => simp [SupD.cells] at hv; subst hv; exact h.cell (i := 3) rfl
  | 2, hv => simp [SupD.cells] at hv; subst hv; exact h.cell (i := 4) rfl
  | 3, hv => simp [SupD.cells] at hv; subst hv; exact h.cell (i := 5) rfl
  | 4, hv => simp [SupD.cells] at hv; subst hv; exact h.cell (i := 6) rfl
  | 5, hv => simp [SupD.cells] at hv; subst hv; exact h.cell (i := 7) rfl
  | 6, hv => simp [SupD.cells] at hv; subst hv; exact h.cell (i := 8) rfl
  | j + 7, hv => simp [SupD.cells] at hv
theorem jsuper_walk (jb db : Nat) (sv : Value) (gen tail epoch clock blocks lbas first : Int) (w : World) (h : Blk w jb (jourCells sv db ⟨gen, tail, epoch, clock, ⟨blocks, lbas, first⟩⟩) 137) :
    Calls Tryz.prog 171 #[.pointer (some ⟨jb, 0, none⟩)] w fun e w' => e = .returned (.agg #[.int .i64 gen, .int .i64 tail, .int .i64 epoch, .int .i64 clock, .int .i64 blocks, .int .i64 lbas, .int .i64 first]) ∧ Below w.heap.size w w' := by
  go_enter Tryz.func171, Tryz.ntmps171
  go_wp2_with (first
    | ((with_reducible refine wpList_alloc_new 135 _ zeroSup (some 2) ?hgd ?ho ?hd ?_); (case hgd | ho | hd => rfl); (intro b2 w2 l2 B2 e2 z2); (have H2 := jour_sup (h.below (e2.mono l2) h.lt)))
    | ((with_reducible refine wpList_load_met 135 (.tmp 8) jb 2 (SupD.cells ⟨gen, tail, epoch, clock, ⟨blocks, lbas, first⟩⟩) _ (some 9) H2 Tryz.underlying135 rfl sizeSup ?hg ?ho ?hds ?hx ?_); (case ho | hg | hds | hx => rfl))
    | ((with_reducible refine wpList_store_new 135 (.tmp 2) (.tmp 9) b2 SupD.zero.cells (SupD.cells ⟨gen, tail, epoch, clock, ⟨blocks, lbas, first⟩⟩) 135 B2 rfl sizeSup (sup_one _) ?hgd ?ho ?hx ?hy ?_); (case hgd | ho | hx | hy => rfl); (intro w3 B3 o3))
    | fail)
  (try simp only [Exit.inBlock, Exit.then]); refine bodyPost_ret (results_cell1v rfl _ _ B3.range rfl Tryz.underlying135 rfl sizeSup) rfl ⟨rfl, o3.below (e2.mono l2) l2⟩
theorem fall0_walk (fb vb m : Nat) (cv : Value) (p : Option Addr) (c : Nat) (w : World) (h : Blk w fb [.pointer (some ⟨vb, 0, none⟩), cv, .map (some m), .slice p 0 c] 257) :
    Calls Tryz.prog 173 #[.pointer (some ⟨fb, 0, none⟩)] w fun e w' => e = .returned (.int .i64 0) ∧ w = w' := by
  have c3 := h.cell (i := 3) rfl
  go_enter Tryz.func173, Tryz.ntmps173
  go_wp2_with fail
  go_step3
  go_wp2_with fail
  go_step3
  go_wp2_with fail
  go_loopw [12] (fun v wr => v = .int .i64 0 ∧ w = wr) (fun _ _ => 0)
  case atStart => exact ⟨rfl, rfl⟩
  case round =>
    obtain ⟨rfl, rfl⟩ := hrel
    go_wp2_with fail
    rw [Exit.noGoto_ret]
    go_ret
    exact ⟨rfl, rfl⟩
theorem ftags0_walk (fb vb m : Nat) (cv lv : Value) (p : Option Addr) (c : Nat) (w : World) (h : Blk w fb [.pointer (some ⟨vb, 0, none⟩), cv, .map (some m), lv] 257) (hs : w.cell? ⟨vb, 4, none⟩ = some (.slice p 0 c)) :
    Calls Tryz.prog 175 #[.pointer (some ⟨fb, 0, none⟩)] w fun e w' => e = .returned (.int .i64 0) ∧ w = w' := by
  have c0 := h.cell (i := 0) rfl
  go_enter Tryz.func175, Tryz.ntmps175
  go_wp2_with fail
  go_loopw [13] (fun v wr => v = .int .i64 0 ∧ w = wr) (fun _ _ => 0)
  case atStart => exact ⟨rfl, rfl⟩
  case round =>
    obtain ⟨rfl, rfl⟩ := hrel
    go_wp2_with fail
    go_ret
    exact ⟨rfl, rfl⟩
theorem fpurged0_walk (fb vb m : Nat) (lv : Value) (p : Option Addr) (c : Nat) (w : World) (h : Blk w fb [.pointer (some ⟨vb, 0, none⟩), .slice p 0 c, .map (some m), lv] 257) :
    Calls Tryz.prog 176 #[.pointer (some ⟨fb, 0, none⟩)] w fun e w' => e = .returned (.int .i64 0) ∧ w = w' := by
  have c1 := h.cell (i := 1) rfl
  go_enter Tryz.func176, Tryz.ntmps176
  go_wp2_with fail
  go_loopw [14] (fun v wr => v = .int .i64 0 ∧ w = wr) (fun _ _ => 0)
  case atStart => exact ⟨rfl, rfl⟩
  case round =>
    obtain ⟨rfl, rfl⟩ := hrel
    go_wp2_with fail
    go_loopw [3, 39] (fun n v wr => n = .int .i64 0 ∧ v = .int .i64 0 ∧ w = wr) (fun _ _ _ => 0)
    case atStart => exact ⟨rfl, rfl, rfl⟩
    case round =>
      obtain ⟨rfl, rfl, rfl⟩ := hrel
      go_wp2_with fail
      go_ret
      exact ⟨rfl, rfl⟩
structure VolNew (w : World) (lo vb jb sb db xb bb cb c2 m1 m2 m3 : Nat) (ro : Option Addr) (key data : ByteArray) (gen clock n lbas first ep : Int) (d : DiskD) : Prop where
  vol : Blk w vb [.pointer (some ⟨jb, 0, none⟩), .string key, .string data, .pointer (some ⟨xb, 0, none⟩), .slice none 0 0, .pointer (some ⟨bb, 0, none⟩), .pointer (some ⟨cb, 0, none⟩), .pointer ro] 50
  jour : Blk w jb (jourCells (.pointer (some ⟨sb, 0, none⟩)) db ⟨gen, 0, ep, clock, ⟨n, lbas, first⟩⟩) 137
  space : Blk w sb (spaceCells ⟨n, lbas, first⟩ 0) 215
  disk : DiskAt w db d
  index : Blk w xb [.bool true, .slice none 0 0] 297
  book : Blk w bb (bookCells c2 first ep m1 m2 m3) 213
  bclock : Blk w c2 [.bool true, .int .i64 0] 224
  clock : Blk w cb [.bool true, .int .i64 clock] 224
  maps : BookMaps w m1 m2 m3 0 (.map []) (.map []) (.map [])
  o : lo ≤ sb ∧ sb < jb ∧ jb < xb ∧ xb < vb ∧ vb < c2 ∧ vb < bb ∧ bb < cb ∧ c2 < cb ∧ bb ≠ c2
  om : lo ≤ m1 ∧ lo ≤ m2 ∧ lo ≤ m3
set_option maxHeartbeats 4000000 in
theorem mount0_walk (db n ep : Nat) (ro : Option Addr) (gen clock lbas first : Int) (key data : ByteArray) (d : DiskD) (w : World) (h : DiskAt w db d) (hdata : data.size = 16) (hfe : first = (ep : Int)) (hso : SupOk (⟨gen, ((0 : Nat) : Int), (ep : Int), clock, ⟨(n : Int), lbas, first⟩⟩ : SupD))
    (hd : d.down = false) (hc : d.cs.length ≤ 4096) (hb : d.bs.length ≤ 1024) (hn : d.bs.length = n) (hsh : ∀ i, 4 ≤ i → i < n → d.shown i = (⟨(List.replicate 4096 0).toArray⟩ : ByteArray)) (hst : (if ep % 2 = 0 then d.shown 3 else d.shown 2) = (⟨(List.replicate 4096 0).toArray⟩ : ByteArray))
    (hF : ∀ wx, DiskAt wx db d → Calls Tryz.prog 262 #[.pointer (some ⟨db, 0, none⟩)] wx fun e w' => e = .returned (.tuple #[(⟨gen, ((0 : Nat) : Int), (ep : Int), clock, ⟨(n : Int), lbas, first⟩⟩ : SupD).v, .string key, .int .i64 0]) ∧ Below wx.heap.size wx w') :
    Calls Tryz.prog 81 #[.pointer (some ⟨db, 0, none⟩), .string data, .pointer ro] w fun e w' => (∃ vb jb sb xb bb cb c2 m1 m2 m3, e = .returned (.tuple #[.pointer (some ⟨vb, 0, none⟩), .int .i64 0]) ∧ VolNew w' w.heap.size vb jb sb db xb bb cb c2 m1 m2 m3 ro key data gen clock n lbas first ep d) ∧ Below w.heap.size w w' := by
  have hmm := @run_makeMap Tryz.prog
  have hds : (data.size : Int) = 16 := by omega
  have hfa : ∀ (a b c d e f g : Int) (w : World), Sem.run Tryz.prog (Instr.field 135 (.agg #[.int .i64 a, .int .i64 b, .int .i64 c, .int .i64 d, .int .i64 e, .int .i64 f, .int .i64 g]) 4) w = .ok (.agg #[.int .i64 e, .int .i64 f, .int .i64 g]) w := fun _ _ _ _ _ _ _ _ => by kernel_rfl
  have hfb : ∀ (a b c d e f g : Int) (w : World), Sem.run Tryz.prog (Instr.field 135 (.agg #[.int .i64 a, .int .i64 b, .int .i64 c, .int .i64 d, .int .i64 e, .int .i64 f, .int .i64 g]) 3) w = .ok (.int .i64 d) w := fun _ _ _ _ _ _ _ _ => by kernel_rfl
  have hfc : ∀ (a b c d e f g : Int) (w : World), Sem.run Tryz.prog (Instr.field 135 (.agg #[.int .i64 a, .int .i64 b, .int .i64 c, .int .i64 d, .int .i64 e, .int .i64 f, .int .i64 g]) 2) w = .ok (.int .i64 c) w := fun _ _ _ _ _ _ _ _ => by kernel_rfl
  have hfd : ∀ (e f g : Int) (w : World), Sem.run Tryz.prog (Instr.field 23 (.agg #[.int .i64 e, .int .i64 f, .int .i64 g]) 2) w = .ok (.int .i64 g) w := fun _ _ _ _ => by kernel_rfl
  have HDw := Lib.hid h
  have HSO := Lib.hid hso
  have HFE := Lib.hid hfe
  have HOP := Lib.hid (open_walk db n 0 ep gen clock lbas first key d w h hso hd hc hb hn (by simpa using hsh) hst hF)
  clear h hso hd hc hb hn hsh hst hF hdata hfe
  go_enter Tryz.func81, Tryz.ntmps81
  go_wp2_with fail
  refine HOP.out.mono ?_
  rintro e wa ⟨⟨jb, sb, lv, rfl, hJ, hP, hown, hl1, hl2⟩, hba⟩
  obtain ⟨lp, lc, rfl⟩ := own_nil hown
  have HBEwa := Lib.hid hba
  have HDwa := Lib.hid (HDw.out.below hba)
  have HJwa := Lib.hid hJ
  have HPwa := Lib.hid hP
  have HO1 := Lib.hid (And.intro hl1 hl2)
  clear hba hJ hP hown hl1 hl2 HOP
  go_wp2_with fail
  refine (indexNew_walk _).mono ?_
  rintro e wb ⟨⟨xb, rfl, hX, hlx⟩, hbb⟩
  have HJwb := Lib.hid (HJwa.out.below hbb HJwa.out.lt)
  have HPwb := Lib.hid (HPwa.out.below hbb HPwa.out.lt)
  have HXwb := Lib.hid hX
  have HDwb := Lib.hid (HDwa.out.below hbb)
  have HBEwb := Lib.hid (HBEwa.out.trans (hbb.mono HBEwa.out.size))
  have HO2 := Lib.hid (show jb < xb from Nat.lt_of_lt_of_le HJwa.out.lt hlx)
  clear hbb hX hlx
  go_wp2_with (first
    | ((with_reducible refine wpList_build_eq 50 ?parts35 [.pointer (some ⟨jb, 0, none⟩), .string key, .string data, .pointer (some ⟨xb, 0, none⟩), .slice none 0 0, .pointer none, .pointer none, .pointer ro] ?hg ?ho ?hf ?_); (case hg | ho => rfl); (case hf => kernel_rfl))
    | ((with_reducible refine wpList_box_new 50 (.tmp 35) [.pointer (some ⟨jb, 0, none⟩), .string key, .string data, .pointer (some ⟨xb, 0, none⟩), .slice none 0 0, .pointer none, .pointer none, .pointer ro] (some 36) ?hgd ?ho ?hd ?hx ?_); (case hgd | ho | hd | hx => rfl); (intro vb wc lc B2 e2 z2))
    | fail)
  have hbc : Below wb.heap.size wb wc := e2.mono lc
  have HO3 := Lib.hid (show xb < vb from Nat.lt_of_lt_of_le HXwb.out.lt lc)
  have HJwc := Lib.hid (HJwb.out.below hbc HJwb.out.lt)
  have HPwc := Lib.hid (HPwb.out.below hbc HPwb.out.lt)
  have HXwc := Lib.hid (HXwb.out.below hbc HXwb.out.lt)
  have HDwc := Lib.hid (HDwb.out.below hbc)
  have HBEwc := Lib.hid (HBEwb.out.trans (hbc.mono HBEwb.out.size))
  have HVwc := Lib.hid B2
  clear B2 e2 z2 lc hbc
  refine (jsuper_walk jb db (.pointer (some ⟨sb, 0, none⟩)) gen ((0 : Nat) : Int) (ep : Int) clock (n : Int) lbas first _ HJwc.out).mono ?_
  rintro e wd ⟨rfl, hbd⟩
  have HJwd := Lib.hid (HJwc.out.below hbd HJwc.out.lt)
  have HPwd := Lib.hid (HPwc.out.below hbd HPwc.out.lt)
  have HXwd := Lib.hid (HXwc.out.below hbd HXwc.out.lt)
  have HVwd := Lib.hid (HVwc.out.below hbd HVwc.out.lt)
  have HDwd := Lib.hid (HDwc.out.below hbd)
  have HBEwd := Lib.hid (HBEwc.out.trans (hbd.mono HBEwc.out.size))
  clear hbd
  go_wp2_with fail
  refine (bookNew_walk first _ (by have := HSO.out.geo.f0; simpa using this) (by have := HSO.out.geo.f1; simpa using this)).mono ?_
  rintro e we ⟨⟨bb, c2, m1, m2, m3, rfl, hB, hC2, hlb, hlc, hM, hm1, hm2, hm3⟩, hbe⟩
  have HO4 := Lib.hid (show vb < c2 ∧ vb < bb from ⟨Nat.lt_of_lt_of_le HVwd.out.lt hlc, Nat.lt_of_lt_of_le HVwd.out.lt hlb⟩)
  have HJwe := Lib.hid (HJwd.out.below hbe HJwd.out.lt)
  have HPwe := Lib.hid (HPwd.out.below hbe HPwd.out.lt)
  have HXwe := Lib.hid (HXwd.out.below hbe HXwd.out.lt)
  have HVwe := Lib.hid (HVwd.out.below hbe HVwd.out.lt)
  have HDwe := Lib.hid (HDwd.out.below hbe)
  have HBEwe := Lib.hid (HBEwd.out.trans (hbe.mono HBEwd.out.size))
  have HO6 := Lib.hid (show bb ≠ c2 from by intro h; subst h; have h1 := hB; have h2 := hC2; unfold Blk at h1 h2; rw [h1] at h2; simp [bookCells] at h2)
  have HBwe := Lib.hid (show Blk we bb (bookCells c2 first (ep : Int) m1 m2 m3) 213 from by have h := hB; rw [show bookCells c2 first first m1 m2 m3 = bookCells c2 first (ep : Int) m1 m2 m3 by rw [← HFE.out]] at h; exact h)
  have HC2we := Lib.hid hC2
  have HMwe := Lib.hid hM
  have HMB := Lib.hid (show w.heap.size ≤ m1 ∧ w.heap.size ≤ m2 ∧ w.heap.size ≤ m3 from by have := HBEwd.out.size; omega)
  clear hbe hB hC2 hlb hlc hM hm1 hm2 hm3
  have k5 := HVwe.out.cell (i := 5) rfl
  have f5 := HVwe.out.free 5
  go_wp2_with fail
  obtain ⟨wf, hqwf⟩ : ∃ wf, we.setCell ⟨vb, 5, none⟩ (.pointer (some ⟨bb, 0, none⟩)) = wf := ⟨_, rfl⟩
  have htwf : Turned [vb] we wf := by rw [← hqwf]; exact (Turned.refl _ _).setCell (.inl (by simp)) 5 _
  have hlo : w.heap.size ≤ vb := by have := HO1.out; have := HO2.out; have := HO3.out; omega
  have HVwf := Lib.hid (show Blk wf vb [.pointer (some ⟨jb, 0, none⟩), .string key, .string data, .pointer (some ⟨xb, 0, none⟩), .slice none 0 0, .pointer (some ⟨bb, 0, none⟩), .pointer none, .pointer ro] 50 from by rw [← hqwf]; exact (HVwe.out.set 5 _).ext rfl)
  have HJwf := Lib.hid (htwf.blk HJwe.out (by have := HO1.out; have := HO2.out; have := HO3.out; have := HO4.out; (try have := HO5.out); simp; omega))
  have HPwf := Lib.hid (htwf.blk HPwe.out (by have := HO1.out; have := HO2.out; have := HO3.out; have := HO4.out; (try have := HO5.out); simp; omega))
  have HXwf := Lib.hid (htwf.blk HXwe.out (by have := HO1.out; have := HO2.out; have := HO3.out; have := HO4.out; (try have := HO5.out); simp; omega))
  have HBwf := Lib.hid (htwf.blk HBwe.out (by have := HO1.out; have := HO2.out; have := HO3.out; have := HO4.out; (try have := HO5.out); simp; omega))
  have HC2wf := Lib.hid (htwf.blk HC2we.out (by have := HO1.out; have := HO2.out; have := HO3.out; have := HO4.out; (try have := HO5.out); simp; omega))
  have HMwf := Lib.hid (HMwe.out.turned htwf (by intro x hx hm; simp at hm; exact HMwe.out.ne HVwe.out x hx hm))
  have HDwf := Lib.hid (HDwe.out.turned htwf (by intro x hx hm; simp at hm; subst hm; have := HDw.out.lt x hx; omega))
  have HBEwf := Lib.hid (htwf.below HBEwe.out (by intro x hx; simp at hx; subst hx; exact hlo) HBEwe.out.size)
  rw [hqwf]
  clear hqwf htwf hlo
  clear k5 f5
  refine (jsuper_walk jb db (.pointer (some ⟨sb, 0, none⟩)) gen ((0 : Nat) : Int) (ep : Int) clock (n : Int) lbas first _ HJwf.out).mono ?_
  rintro e wg0 ⟨rfl, hbg0⟩
  have HJwg0 := Lib.hid (HJwf.out.below hbg0 HJwf.out.lt)
  have HPwg0 := Lib.hid (HPwf.out.below hbg0 HPwf.out.lt)
  have HXwg0 := Lib.hid (HXwf.out.below hbg0 HXwf.out.lt)
  have HVwg0 := Lib.hid (HVwf.out.below hbg0 HVwf.out.lt)
  have HBwg0 := Lib.hid (HBwf.out.below hbg0 HBwf.out.lt)
  have HC2wg0 := Lib.hid (HC2wf.out.below hbg0 HC2wf.out.lt)
  have HMwg0 := Lib.hid (HMwf.out.below hbg0)
  have HDwg0 := Lib.hid (HDwf.out.below hbg0)
  have HBEwg0 := Lib.hid (HBEwf.out.trans (hbg0.mono HBEwf.out.size))
  clear hbg0
  go_wp2_with fail
  refine (clockNewT_walk clock _ HSO.out.c0 HSO.out.c1).mono ?_
  rintro e wg1 ⟨⟨cb, rfl, hC, hlc⟩, hbg1⟩
  have HO5 := Lib.hid (show bb < cb ∧ c2 < cb from ⟨Nat.lt_of_lt_of_le HBwg0.out.lt hlc, Nat.lt_of_lt_of_le HC2wg0.out.lt hlc⟩)
  have HJwg1 := Lib.hid (HJwg0.out.below hbg1 HJwg0.out.lt)
  have HPwg1 := Lib.hid (HPwg0.out.below hbg1 HPwg0.out.lt)
  have HXwg1 := Lib.hid (HXwg0.out.below hbg1 HXwg0.out.lt)
  have HVwg1 := Lib.hid (HVwg0.out.below hbg1 HVwg0.out.lt)
  have HBwg1 := Lib.hid (HBwg0.out.below hbg1 HBwg0.out.lt)
  have HC2wg1 := Lib.hid (HC2wg0.out.below hbg1 HC2wg0.out.lt)
  have HMwg1 := Lib.hid (HMwg0.out.below hbg1)
  have HDwg1 := Lib.hid (HDwg0.out.below hbg1)
  have HBEwg1 := Lib.hid (HBEwg0.out.trans (hbg1.mono HBEwg0.out.size))
  have HCwg1 := Lib.hid hC
  clear hbg1 hC hlc
  have k6 := HVwg1.out.cell (i := 6) rfl
  have f6 := HVwg1.out.free 6
  have HMM := Lib.hid hmm
  clear hmm
  go_upto_region 9 with fail
  obtain ⟨wg2, hqwg2⟩ : ∃ wg2, wg1.setCell ⟨vb, 6, none⟩ (.pointer (some ⟨cb, 0, none⟩)) = wg2 := ⟨_, rfl⟩
  have htwg2 : Turned [vb] wg1 wg2 := by rw [← hqwg2]; exact (Turned.refl _ _).setCell (.inl (by simp)) 6 _
  have hlo : w.heap.size ≤ vb := by have := HO1.out; have := HO2.out; have := HO3.out; omega
  have HVwg2 := Lib.hid (show Blk wg2 vb [.pointer (some ⟨jb, 0, none⟩), .string key, .string data, .pointer (some ⟨xb, 0, none⟩), .slice none 0 0, .pointer (some ⟨bb, 0, none⟩), .pointer (some ⟨cb, 0, none⟩), .pointer ro] 50 from by rw [← hqwg2]; exact (HVwg1.out.set 6 _).ext rfl)
  have HJwg2 := Lib.hid (htwg2.blk HJwg1.out (by have := HO1.out; have := HO2.out; have := HO3.out; have := HO4.out; (try have := HO5.out); simp; omega))
  have HPwg2 := Lib.hid (htwg2.blk HPwg1.out (by have := HO1.out; have := HO2.out; have := HO3.out; have := HO4.out; (try have := HO5.out); simp; omega))
  have HXwg2 := Lib.hid (htwg2.blk HXwg1.out (by have := HO1.out; have := HO2.out; have := HO3.out; have := HO4.out; (try have := HO5.out); simp; omega))
  have HBwg2 := Lib.hid (htwg2.blk HBwg1.out (by have := HO1.out; have := HO2.out; have := HO3.out; have := HO4.out; (try have := HO5.out); simp; omega))
  have HC2wg2 := Lib.hid (htwg2.blk HC2wg1.out (by have := HO1.out; have := HO2.out; have := HO3.out; have := HO4.out; (try have := HO5.out); simp; omega))
  have HCwg2 := Lib.hid (htwg2.blk HCwg1.out (by have := HO1.out; have := HO2.out; have := HO3.out; have := HO4.out; (try have := HO5.out); simp; omega))
  have HMwg2 := Lib.hid (HMwg1.out.turned htwg2 (by intro x hx hm; simp at hm; exact HMwg1.out.ne HVwg1.out x hx hm))
  have HDwg2 := Lib.hid (HDwg1.out.turned htwg2 (by intro x hx hm; simp at hm; subst hm; have := HDw.out.lt x hx; omega))
  have HBEwg2 := Lib.hid (htwg2.below HBEwg1.out (by intro x hx; simp at hx; subst hx; exact hlo) HBEwg1.out.size)
  rw [hqwg2]
  clear hqwg2 htwg2 hlo
  clear k6 f6
  have hmm := HMM.out
  go_wp2_with (first
    | ((with_reducible refine wpList_build_eq 257 ?parts61 [.pointer (some ⟨vb, 0, none⟩), .slice none 0 0, .map (some wg2.heap.size), .slice lp 0 lc] ?hg ?ho ?hf ?_); (case hg | ho => rfl); (case hf => kernel_rfl))
    | ((with_reducible refine wpList_box_new 257 (.tmp 61) [.pointer (some ⟨vb, 0, none⟩), .slice none 0 0, .map (some wg2.heap.size), .slice lp 0 lc] (some 62) ?hgd ?ho ?hd ?hx ?_); (case hgd | ho | hd | hx => rfl); (intro fb wg3 l3 B3 e3 z3))
    | fail)
  have hbh : Below wg2.heap.size wg2 wg3 := (((Below.refl _ _).alloc (Nat.le_refl _) _).trans (e3.mono (by have := l3; simp at this; omega)))
  have HJwg3 := Lib.hid (HJwg2.out.below hbh HJwg2.out.lt)
  have HPwg3 := Lib.hid (HPwg2.out.below hbh HPwg2.out.lt)
  have HXwg3 := Lib.hid (HXwg2.out.below hbh HXwg2.out.lt)
  have HVwg3 := Lib.hid (HVwg2.out.below hbh HVwg2.out.lt)
  have HBwg3 := Lib.hid (HBwg2.out.below hbh HBwg2.out.lt)
  have HC2wg3 := Lib.hid (HC2wg2.out.below hbh HC2wg2.out.lt)
  have HCwg3 := Lib.hid (HCwg2.out.below hbh HCwg2.out.lt)
  have HMwg3 := Lib.hid (HMwg2.out.below hbh)
  have HDwg3 := Lib.hid (HDwg2.out.below hbh)
  have HBEwg3 := Lib.hid (HBEwg2.out.trans (hbh.mono HBEwg2.out.size))
  have HFwg3 := Lib.hid B3
  obtain ⟨m, HM⟩ : ∃ m, Hid (wg2.heap.size = m) := ⟨_, rfl⟩
  rw [HM.out] at HFwg3
  clear hbh B3 e3 z3 l3
  refine (fall0_walk fb vb m (.slice none 0 0) lp lc _ HFwg3.out).mono ?_
  rintro e w' ⟨rfl, rfl⟩
  clear hmm
  go_upto_region 13 with fail
  refine wp_region_held_drew (S := fun wx => wx.cell? ⟨vb, 5, none⟩ = some (.pointer (some ⟨bb, 0, none⟩)) ∧ wx.cell? ⟨vb, 6, none⟩ = some (.pointer (some ⟨cb, 0, none⟩))) (by kernel_rfl) (⟨HVwg3.out.drew.cell (i := 5) rfl, HVwg3.out.drew.cell (i := 6) rfl⟩) (fun hHeld => ?_)
  obtain ⟨wh, hwh⟩ : ∃ wh, wh = wg3.drew := ⟨_, rfl⟩
  have hbw : Below wg3.heap.size wg3 wh := by rw [hwh]; exact (Below.refl _ _).drew
  have HJwh := Lib.hid (HJwg3.out.below hbw HJwg3.out.lt)
  have HPwh := Lib.hid (HPwg3.out.below hbw HPwg3.out.lt)
  have HXwh := Lib.hid (HXwg3.out.below hbw HXwg3.out.lt)
  have HVwh := Lib.hid (HVwg3.out.below hbw HVwg3.out.lt)
  have HBwh := Lib.hid (HBwg3.out.below hbw HBwg3.out.lt)
  have HC2wh := Lib.hid (HC2wg3.out.below hbw HC2wg3.out.lt)
  have HCwh := Lib.hid (HCwg3.out.below hbw HCwg3.out.lt)
  have HFwh := Lib.hid (HFwg3.out.below hbw HFwg3.out.lt)
  have HMwh := Lib.hid (HMwg3.out.below hbw)
  have HDwh := Lib.hid (HDwg3.out.below hbw)
  have HBEwh := Lib.hid (HBEwg3.out.trans (hbw.mono HBEwg3.out.size))
  rw [← hwh]
  rw [← hwh] at hHeld
  clear hwh hbw
  refine wpAnyH_take (i := 0) (v := ?_) rfl (by kernel_rfl) (by kernel_rfl) (by kernel_rfl) (fun _ _ _ h => h) (Or.inl ⟨by rfl, ?_⟩) (by assumption) ?_
  rotate_left
  · intro w hSw; (try dsimp only at hSw); go_simp; first | done | with_reducible rfl
  (try simp only [Act.put, Array.getInternal_eq_getElem, List.getElem_toArray, List.getElem_cons_succ, List.getElem_cons_zero, List.setIfInBounds_toArray, List.set_cons_zero, List.set_cons_succ])
  refine wpAnyH_take (i := 1) (v := ?_) rfl (by kernel_rfl) (by kernel_rfl) (by kernel_rfl) (fun _ _ _ h => h) (Or.inl ⟨by rfl, ?_⟩) (by assumption) ?_
  rotate_left
  · intro w hSw; (try dsimp only at hSw); go_simp; first | done | with_reducible rfl
  (try simp only [Act.put, Array.getInternal_eq_getElem, List.getElem_toArray, List.getElem_cons_succ, List.getElem_cons_zero, List.setIfInBounds_toArray, List.set_cons_zero, List.set_cons_succ])
  refine wpAnyH_take (i := 2) (v := ?_) rfl (by kernel_rfl) (by kernel_rfl) (by kernel_rfl) (fun _ _ _ h => h) (Or.inl ⟨by rfl, ?_⟩) (by assumption) ?_
  rotate_left
  · intro w hSw; (try dsimp only at hSw); go_simp; first | done | with_reducible rfl
  (try simp only [Act.put, Array.getInternal_eq_getElem, List.getElem_toArray, List.getElem_cons_succ, List.getElem_cons_zero, List.setIfInBounds_toArray, List.set_cons_zero, List.set_cons_succ])
  refine wpAnyH_take (i := 3) (v := ?_) rfl (by kernel_rfl) (by kernel_rfl) (by kernel_rfl) (fun _ _ _ h => h) (Or.inl ⟨by rfl, ?_⟩) (by assumption) ?_
  rotate_left
  · intro w hSw; (try dsimp only at hSw); go_simp; first | done | with_reducible rfl
  (try simp only [Act.put, Array.getInternal_eq_getElem, List.getElem_toArray, List.getElem_cons_succ, List.getElem_cons_zero, List.setIfInBounds_toArray, List.set_cons_zero, List.set_cons_succ])
  refine wpAnyH_take (i := 5) (v := ?_) rfl (by kernel_rfl) (by kernel_rfl) (by kernel_rfl) (fun _ _ _ h => h) (Or.inl ⟨by rfl, ?_⟩) (by assumption) ?_
  rotate_left
  · intro w hSw; (try dsimp only at hSw); go_simp; first | done | with_reducible rfl
  (try simp only [Act.put, Array.getInternal_eq_getElem, List.getElem_toArray, List.getElem_cons_succ, List.getElem_cons_zero, List.setIfInBounds_toArray, List.set_cons_zero, List.set_cons_succ])
  refine wpAnyH_ready (rs := [4]) (by kernel_rfl) (by simp) ?_
  refine AllReadyH.cons rfl (fun K hK => ?_) AllReadyH.nil
  go_simp
  refine (bookEpoch_walk bb c2 first (ep : Int) m1 m2 m3 _ HBwh.out).mono ?_
  rintro e w' ⟨rfl, rfl⟩
  (try go_wp2_with fail)
  refine hK.out _ _ (⟨HVwh.out.cell (i := 5) rfl, HVwh.out.cell (i := 6) rfl⟩) (fun hHeld2 => ?_)
  clear hK K hHeld
  have hHeld := hHeld2
  clear hHeld2
  (try simp only [Act.put, Array.getInternal_eq_getElem, List.getElem_toArray, List.getElem_cons_succ, List.getElem_cons_zero, List.setIfInBounds_toArray, List.set_cons_zero, List.set_cons_succ])
  refine wpAnyH_ready (rs := [6]) (by kernel_rfl) (by simp) ?_
  refine AllReadyH.cons rfl (fun K hK => ?_) AllReadyH.nil
  go_simp
  refine (jsuper_walk jb db (.pointer (some ⟨sb, 0, none⟩)) gen ((0 : Nat) : Int) (ep : Int) clock (n : Int) lbas first _ HJwh.out).mono ?_
  rintro e wi ⟨rfl, hbi⟩
  have HJwi := Lib.hid (HJwh.out.below hbi HJwh.out.lt)
  have HPwi := Lib.hid (HPwh.out.below hbi HPwh.out.lt)
  have HXwi := Lib.hid (HXwh.out.below hbi HXwh.out.lt)
  have HVwi := Lib.hid (HVwh.out.below hbi HVwh.out.lt)
  have HBwi := Lib.hid (HBwh.out.below hbi HBwh.out.lt)
  have HC2wi := Lib.hid (HC2wh.out.below hbi HC2wh.out.lt)
  have HCwi := Lib.hid (HCwh.out.below hbi HCwh.out.lt)
  have HFwi := Lib.hid (HFwh.out.below hbi HFwh.out.lt)
  have HMwi := Lib.hid (HMwh.out.below hbi)
  have HDwi := Lib.hid (HDwh.out.below hbi)
  have HBEwi := Lib.hid (HBEwh.out.trans (hbi.mono HBEwh.out.size))
  clear hbi
  (try go_wp2_with fail)
  refine hK.out _ _ (⟨HVwi.out.cell (i := 5) rfl, HVwi.out.cell (i := 6) rfl⟩) (fun hHeld2 => ?_)
  clear hK K hHeld
  have hHeld := hHeld2
  clear hHeld2
  (try simp only [Act.put, Array.getInternal_eq_getElem, List.getElem_toArray, List.getElem_cons_succ, List.getElem_cons_zero, List.setIfInBounds_toArray, List.set_cons_zero, List.set_cons_succ])
  refine wpAnyH_take (i := 7) (v := ?_) rfl (by kernel_rfl) (by kernel_rfl) (by kernel_rfl) (fun _ _ _ h => h) (Or.inl ⟨by rfl, ?_⟩) (by assumption) ?_
  rotate_left
  · intro w hSw; (try dsimp only at hSw); go_simp; first | done | with_reducible rfl
  (try simp only [Act.put, Array.getInternal_eq_getElem, List.getElem_toArray, List.getElem_cons_succ, List.getElem_cons_zero, List.setIfInBounds_toArray, List.set_cons_zero, List.set_cons_succ])
  refine wpAnyH_take (i := 8) (v := ?_) rfl (by kernel_rfl) (by kernel_rfl) (by kernel_rfl) (fun _ _ _ h => h) (Or.inl ⟨by rfl, ?_⟩) (by assumption) ?_
  rotate_left
  · intro w hSw; (try dsimp only at hSw); go_simp; first | done | with_reducible rfl
  (try simp only [Act.put, Array.getInternal_eq_getElem, List.getElem_toArray, List.getElem_cons_succ, List.getElem_cons_zero, List.setIfInBounds_toArray, List.set_cons_zero, List.set_cons_succ])
  refine wpAnyH_take (i := 9) (v := ?_) rfl (by kernel_rfl) (by kernel_rfl) (by kernel_rfl) (fun _ _ _ h => h) (Or.inl ⟨by rfl, ?_⟩) (by assumption) ?_
  rotate_left
  · intro w hSw; (try dsimp only at hSw); go_simp; first | done | with_reducible rfl
  (try simp only [Act.put, Array.getInternal_eq_getElem, List.getElem_toArray, List.getElem_cons_succ, List.getElem_cons_zero, List.setIfInBounds_toArray, List.set_cons_zero, List.set_cons_succ])
  refine wpAnyH_take (i := 10) (v := ?_) rfl (by kernel_rfl) (by kernel_rfl) (by kernel_rfl) (fun _ _ _ h => h) (Or.inl ⟨by rfl, ?_⟩) (by assumption) ?_
  rotate_left
  · intro w hSw; (try dsimp only at hSw); go_simp; first | done | with_reducible rfl
  (try simp only [Act.put, Array.getInternal_eq_getElem, List.getElem_toArray, List.getElem_cons_succ, List.getElem_cons_zero, List.setIfInBounds_toArray, List.set_cons_zero, List.set_cons_succ])
  refine wpAnyH_take (i := 11) (v := ?_) rfl (by kernel_rfl) (by kernel_rfl) (by kernel_rfl) (fun _ _ _ h => h) (Or.inl ⟨by rfl, ?_⟩) (by assumption) ?_
  rotate_left
  · intro w hSw; (try dsimp only at hSw); go_simp; first | done | with_reducible rfl
  (try simp only [Act.put, Array.getInternal_eq_getElem, List.getElem_toArray, List.getElem_cons_succ, List.getElem_cons_zero, List.setIfInBounds_toArray, List.set_cons_zero, List.set_cons_succ])
  refine wpAnyH_take (i := 12) (v := ?_) rfl (by kernel_rfl) (by kernel_rfl) (by kernel_rfl) (fun _ _ _ h => h) (Or.inl ⟨by rfl, ?_⟩) (by assumption) ?_
  rotate_left
  · intro w hSw; (try dsimp only at hSw); go_simp; first | done | with_reducible rfl
  (try simp only [Act.put, Array.getInternal_eq_getElem, List.getElem_toArray, List.getElem_cons_succ, List.getElem_cons_zero, List.setIfInBounds_toArray, List.set_cons_zero, List.set_cons_succ])
  refine wpAnyH_take (i := 13) (v := ?_) rfl (by kernel_rfl) (by kernel_rfl) (by kernel_rfl) (fun _ _ _ h => h) (Or.inl ⟨by rfl, ?_⟩) (by assumption) ?_
  rotate_left
  · intro w hSw; (try dsimp only at hSw); go_simp; first | done | with_reducible rfl
  (try simp only [Act.put, Array.getInternal_eq_getElem, List.getElem_toArray, List.getElem_cons_succ, List.getElem_cons_zero, List.setIfInBounds_toArray, List.set_cons_zero, List.set_cons_succ])
  refine wpAnyH_take (i := 15) (v := ?_) rfl (by kernel_rfl) (by kernel_rfl) (by kernel_rfl) (fun _ _ _ h => h) (Or.inl ⟨by rfl, ?_⟩) (by assumption) ?_
  rotate_left
  · intro w hSw; (try dsimp only at hSw); go_simp; first | done | with_reducible rfl
  (try simp only [Act.put, Array.getInternal_eq_getElem, List.getElem_toArray, List.getElem_cons_succ, List.getElem_cons_zero, List.setIfInBounds_toArray, List.set_cons_zero, List.set_cons_succ])
  refine wpAnyH_take (i := 16) (v := ?_) rfl (by kernel_rfl) (by kernel_rfl) (by kernel_rfl) (fun _ _ _ h => h) (Or.inl ⟨by rfl, ?_⟩) (by assumption) ?_
  rotate_left
  · intro w hSw; (try dsimp only at hSw); go_simp; first | done | with_reducible rfl
  (try simp only [Act.put, Array.getInternal_eq_getElem, List.getElem_toArray, List.getElem_cons_succ, List.getElem_cons_zero, List.setIfInBounds_toArray, List.set_cons_zero, List.set_cons_succ])
  refine wpAnyH_take (i := 17) (v := ?_) rfl (by kernel_rfl) (by kernel_rfl) (by kernel_rfl) (fun _ _ _ h => h) (Or.inl ⟨by rfl, ?_⟩) (by assumption) ?_
  rotate_left
  · intro w hSw; (try dsimp only at hSw); go_simp; first | done | with_reducible rfl
  (try simp only [Act.put, Array.getInternal_eq_getElem, List.getElem_toArray, List.getElem_cons_succ, List.getElem_cons_zero, List.setIfInBounds_toArray, List.set_cons_zero, List.set_cons_succ])
  refine wpAnyH_take (i := 18) (v := ?_) rfl (by kernel_rfl) (by kernel_rfl) (by kernel_rfl) (fun _ _ _ h => h) (Or.inl ⟨by rfl, ?_⟩) (by assumption) ?_
  rotate_left
  · intro w hSw; (try dsimp only at hSw); go_simp; first | done | with_reducible rfl
  (try simp only [Act.put, Array.getInternal_eq_getElem, List.getElem_toArray, List.getElem_cons_succ, List.getElem_cons_zero, List.setIfInBounds_toArray, List.set_cons_zero, List.set_cons_succ])
  refine wpAnyH_ready (rs := [14]) (by kernel_rfl) (by simp) ?_
  refine AllReadyH.cons rfl (fun K hK => ?_) AllReadyH.nil
  go_simp
  refine (bookNow_walk bb c2 first (ep : Int) m1 m2 m3 _ HBwi.out 0 HC2wi.out).mono ?_
  rintro e w' ⟨rfl, rfl⟩
  (try go_wp2_with fail)
  refine hK.out _ _ (⟨HVwi.out.cell (i := 5) rfl, HVwi.out.cell (i := 6) rfl⟩) (fun hHeld2 => ?_)
  clear hK K hHeld
  have hHeld := hHeld2
  clear hHeld2
  (try simp only [Act.put, Array.getInternal_eq_getElem, List.getElem_toArray, List.getElem_cons_succ, List.getElem_cons_zero, List.setIfInBounds_toArray, List.set_cons_zero, List.set_cons_succ])
  refine wpAnyH_ready (rs := [19]) (by kernel_rfl) (by simp) ?_
  refine AllReadyH.cons rfl (fun K hK => ?_) AllReadyH.nil
  go_simp
  refine (clockNow_walk cb clock _ HCwi.out).mono ?_
  rintro e w' ⟨rfl, rfl⟩
  (try go_wp2_with fail)
  refine hK.out _ _ (⟨HVwi.out.cell (i := 5) rfl, HVwi.out.cell (i := 6) rfl⟩) (fun hHeld2 => ?_)
  clear hK K hHeld
  have hHeld := hHeld2
  clear hHeld2
  (try simp only [Act.put, Array.getInternal_eq_getElem, List.getElem_toArray, List.getElem_cons_succ, List.getElem_cons_zero, List.setIfInBounds_toArray, List.set_cons_zero, List.set_cons_succ])
  refine wpAnyH_take (i := 20) (v := ?_) rfl (by kernel_rfl) (by kernel_rfl) (by kernel_rfl) (fun _ _ _ h => h) (Or.inl ⟨by rfl, ?_⟩) (by assumption) ?_
  rotate_left
  · intro w hSw; (try dsimp only at hSw); go_simp; first | done | with_reducible rfl
  (try simp only [Act.put, Array.getInternal_eq_getElem, List.getElem_toArray, List.getElem_cons_succ, List.getElem_cons_zero, List.setIfInBounds_toArray, List.set_cons_zero, List.set_cons_succ])
  refine wpAnyH_take (i := 21) (v := ?_) rfl (by kernel_rfl) (by kernel_rfl) (by kernel_rfl) (fun _ _ _ h => h) (Or.inl ⟨by rfl, ?_⟩) (by assumption) ?_
  rotate_left
  · intro w hSw; (try dsimp only at hSw); go_simp; first | done | with_reducible rfl
  (try simp only [Act.put, Array.getInternal_eq_getElem, List.getElem_toArray, List.getElem_cons_succ, List.getElem_cons_zero, List.setIfInBounds_toArray, List.set_cons_zero, List.set_cons_succ])
  refine wpAnyH_done (by kernel_rfl) ?_ _
  clear hHeld
  have hclk := HSO.out.c0
  simp only at hclk
  go_wp2_with fail
  refine (ftags0_walk fb vb m (.slice none 0 0) (.slice lp 0 lc) none 0 _ HFwi.out (HVwi.out.cell (i := 4) rfl)).mono ?_
  rintro e w' ⟨rfl, rfl⟩
  go_wp2_with fail
  refine (fpurged0_walk fb vb m (.slice lp 0 lc) none 0 _ HFwi.out).mono ?_
  rintro e w' ⟨rfl, rfl⟩
  go_wp2_with fail
  go_ret2
  exact ⟨⟨vb, jb, sb, xb, bb, cb, c2, m1, m2, m3, rfl, ⟨HVwi.out, HJwi.out, HPwi.out, HDwi.out, HXwi.out, HBwi.out, HC2wi.out, HCwi.out, HMwi.out, by have := HO1.out; have := HO2.out; have := HO3.out; have := HO4.out; have := HO5.out; have := HO6.out; omega, HMB.out⟩⟩, HBEwi.out⟩
end Go.Proofs.YtppdboadjefieaaGreat

namespace Go.Proofs.YtppdboadjefieaaGreat
open Go Go.RowKit

structure VersD where
  lba : Int
  epoch : Int
  slot : Int
def VersD.cells (v : VersD) : List Value := [.int .i64 v.lba, .int .i64 v.epoch, .int .i64 v.slot]
def flatV (l : List VersD) : List Value := l.flatMap VersD.cells
theorem flatV_length (l : List VersD) : (flatV l).length = l.length * 3 := by
  induction l with
  | nil => rfl
  | cons a r ih => show (a.cells ++ flatV r).length = _; rw [List.length_append, ih, List.length_cons]; show 3 + _ = _; omega
theorem flatV_append (a b : List VersD) : flatV (a ++ b) = flatV a ++ flatV b := by simp [flatV]
theorem flatV_one (l : List VersD) : ∀ v ∈ flatV l, v.oneCell' = true := by
  intro v hv
  simp only [flatV, List.mem_flatMap] at hv
  obtain ⟨x, _, hx⟩ := hv
  simp [VersD.cells] at hx
  rcases hx with rfl | rfl | rfl <;> rfl
theorem flatV_at (l : List VersD) : ∀ (j : Nat) (p : VersD), l[j]? = some p → (flatV l)[j * 3]? = some (.int .i64 p.lba) ∧ (flatV l)[j * 3 + 1]? = some (.int .i64 p.epoch) ∧ (flatV l)[j * 3 + 2]? = some (.int .i64 p.slot) := by
  induction l with
  | nil => intro j p h; simp at h
  | cons a r ih =>
    intro j p h
    cases j with
    | zero => simp at h; subst h; exact ⟨rfl, rfl, rfl⟩
    | succ j =>
      have := ih j p (by simpa using h)
      show (a.cells ++ flatV r)[(j + 1) * 3]? = _ ∧ (a.cells ++ flatV r)[(j + 1) * 3 + 1]? = _ ∧ (a.cells ++ flatV r)[(j + 1) * 3 + 2]? = _
      have ha : a.cells.length = 3 := rfl
      rw [List.getElem?_append_right (by omega), List.getElem?_append_right (by omega), List.getElem?_append_right (by omega), ha]
      rw [show (j + 1) * 3 - 3 = j * 3 by omega, show (j + 1) * 3 + 1 - 3 = j * 3 + 1 by omega, show (j + 1) * 3 + 2 - 3 = j * 3 + 2 by omega]
      exact this
def cmpI (a b : Int) : Int := if a < b then -1 else if b < a then 1 else 0
def cmpV (a b : VersD) : Int := if cmpI a.lba b.lba ≠ 0 then cmpI a.lba b.lba else if cmpI a.epoch b.epoch ≠ 0 then cmpI a.epoch b.epoch else cmpI a.slot b.slot
end Go.Proofs.YtppdboadjefieaaGreat

namespace Go.Proofs.YtppdboadjefieaaGreat
open Go Go.RowKit

theorem check_walk (r : Rec) (w : World) (hname : r.name.size ≤ 1073741824) (hf : Fits r.epoch) :
    Calls Tryz.prog 228 #[r.v] w fun e w' => e = .returned (.int .i64 (chkI r)) ∧ Below w.heap.size w w' := by
  obtain ⟨kind, epoch, time, count, target, till, root, name⟩ := r
  by_cases k1 : kind = 1
  · subst k1; exact check_1 epoch time count target till root name w hname hf
  by_cases k2 : kind = 2
  · subst k2; exact check_2 epoch time count target till root name w hname hf
  by_cases k5 : kind = 5
  · subst k5; exact check_5 epoch time count target till root name w hname hf
  by_cases k3 : kind = 3
  · subst k3; exact check_3 epoch time count target till root name w hname hf
  by_cases k4 : kind = 4
  · subst k4; exact check_4 epoch time count target till root name w hname hf
  exact check_o kind epoch time count target till root name w hname hf k1 k2 k5 k3 k4
theorem chkI_yes {r : Rec} (h : recOk r = true) : chkI r = 0 := by unfold chkI; rw [h]; rfl
theorem chkI_no {r : Rec} (h : recOk r = false) : chkI r = 2 := by unfold chkI; rw [h]; rfl

def widthsL : List Int := [1, 4, 8, 4, 4, 8]
def Rec.nums (r : Rec) : List Int := [r.kind, r.epoch, r.time, r.count, r.target, r.till]
def recPut (r : Rec) : List UInt8 := packL widthsL r.nums ++ textL r.root.data.toList ++ textL r.name.data.toList

theorem recOk_facts {r : Rec} (h : recOk r = true) : (1 ≤ r.kind ∧ r.kind ≤ 5) ∧ (0 ≤ r.epoch ∧ r.epoch ≤ 4294967295) ∧ (0 ≤ r.time ∧ r.time ≤ 1099511627776) ∧ (0 ≤ r.count ∧ r.count ≤ 4096) ∧ (0 ≤ r.target ∧ r.target ≤ 4294967295) ∧ (0 ≤ r.till ∧ r.till ≤ 1099511627776) ∧ r.root.size ≤ 32 ∧ r.name.size ≤ 16 := by
  obtain ⟨kind, epoch, time, count, target, till, root, name⟩ := r
  have e : name.data.toList.length = name.size := rfl
  simp only [recOk, recKind, nameOk, e, Bool.and_eq_true, decide_eq_true_eq] at h ⊢
  obtain ⟨⟨⟨⟨h1, h2⟩, h3⟩, h4⟩, h5⟩ := h
  split at h5
  · simp only [Bool.and_eq_true, decide_eq_true_eq] at h5; omega
  · split at h5
    · simp only [Bool.and_eq_true, decide_eq_true_eq] at h5; omega
    · split at h5
      · simp only [Bool.and_eq_true, decide_eq_true_eq] at h5; omega
      · split at h5
        · simp only [Bool.and_eq_true, decide_eq_true_eq] at h5; omega
        · simp at h5
theorem recOk_pack {r : Rec} (h : recOk r = true) : PackOk widthsL r.nums := by
  obtain ⟨⟨a1, a2⟩, ⟨b1, b2⟩, ⟨c1, c2⟩, ⟨d1, d2⟩, ⟨e1, e2⟩, ⟨f1, f2⟩, _, _⟩ := recOk_facts h
  refine ⟨rfl, fun i a x ha hx => ?_⟩
  match i, ha, hx with
  | 0, ha, hx => simp [widthsL, Rec.nums] at ha hx; subst ha; subst hx; simp; omega
  | 1, ha, hx => simp [widthsL, Rec.nums] at ha hx; subst ha; subst hx; simp; omega
  | 2, ha, hx => simp [widthsL, Rec.nums] at ha hx; subst ha; subst hx; simp; omega
  | 3, ha, hx => simp [widthsL, Rec.nums] at ha hx; subst ha; subst hx; simp; omega
  | 4, ha, hx => simp [widthsL, Rec.nums] at ha hx; subst ha; subst hx; simp; omega
  | 5, ha, hx => simp [widthsL, Rec.nums] at ha hx; subst ha; subst hx; simp; omega
  | i + 6, ha, hx => simp [widthsL] at ha
theorem packL_length_rec (r : Rec) : (packL widthsL r.nums).length = 29 := by simp [packL, widthsL, Rec.nums, beBytes_length]

theorem widths_walk (w : World) :
    Calls Tryz.prog 229 #[] w fun e w' => ∃ v, e = .returned v ∧ IntRow w' v widthsL ∧ Below w.heap.size w w' := by
  go_enter Tryz.func229, Tryz.ntmps229
  go_wp2_with fail
  go_ret
  exact ⟨_, rfl, IntRow.blk (xs := widthsL) (Blk.new w (widthsL.map (Value.int .i64)) 3) rfl 6, (Below.refl _ _).alloc (Nat.le_refl _) _⟩

def RecPutEnd (r : Rec) (e : Ending) : Prop :=
  (recOk r = true ∧ ∃ q, e = .returned (.tuple #[.string q, .int .i64 0]) ∧ Txt q (recPut r)) ∨ (recOk r = false ∧ e = .returned (.tuple #[.string ⟨#[]⟩, .int .i64 2]))
structure RecAt (w : World) (b : Nat) (r : Rec) : Prop where
  lt : b < w.heap.size
  c0 : w.cell? ⟨b, 0, none⟩ = some (.int .i64 r.kind)
  c1 : w.cell? ⟨b, 1, none⟩ = some (.int .i64 r.epoch)
  c2 : w.cell? ⟨b, 2, none⟩ = some (.int .i64 r.time)
  c3 : w.cell? ⟨b, 3, none⟩ = some (.int .i64 r.count)
  c4 : w.cell? ⟨b, 4, none⟩ = some (.int .i64 r.target)
  c5 : w.cell? ⟨b, 5, none⟩ = some (.int .i64 r.till)
  c6 : w.cell? ⟨b, 6, none⟩ = some (.string r.root)
  c7 : w.cell? ⟨b, 7, none⟩ = some (.string r.name)
theorem RecAt.below {w w' : World} {b : Nat} {r : Rec} (h : RecAt w b r) {B : Nat} (hb : Below B w w') (hB : b < B) : RecAt w' b r :=
  ⟨by have := hb.size; have := h.lt; omega, by rw [hb.cell (by exact hB)]; exact h.c0, by rw [hb.cell (by exact hB)]; exact h.c1, by rw [hb.cell (by exact hB)]; exact h.c2, by rw [hb.cell (by exact hB)]; exact h.c3,
    by rw [hb.cell (by exact hB)]; exact h.c4, by rw [hb.cell (by exact hB)]; exact h.c5, by rw [hb.cell (by exact hB)]; exact h.c6, by rw [hb.cell (by exact hB)]; exact h.c7⟩
theorem RecAt.blk {w : World} {b : Nat} {r : Rec} {t : TypeId} (h : Blk w b r.cells t) : RecAt w b r :=
  ⟨h.lt, h.cell rfl, h.cell rfl, h.cell rfl, h.cell rfl, h.cell rfl, h.cell rfl, h.cell rfl, h.cell rfl⟩
theorem rsizeRec {r : Rec} : (Tryz.prog.info? 62).map (·.size) = some r.cells.length := by kernel_rfl

set_option maxRecDepth 100000 in
set_option maxHeartbeats 2000000 in
theorem recput_walk (r : Rec) (w : World) (hroot : r.root.size ≤ 1048576) (hname : r.name.size ≤ 1048576) (hf : Fits r.epoch) :
    Calls Tryz.prog 135 #[r.v] w fun e w' => RecPutEnd r e ∧ Below w.heap.size w w' := by
  have hname : r.name.size ≤ 1073741824 := by omega
  cases hok : recOk r with
  | false =>
    have HK := Lib.hid hok; clear hok
    go_enter Tryz.func135, Tryz.ntmps135
    go_wp2_with (first
      | ((with_reducible refine wpList_box_new 62 (.tmp 0) r.cells (some 1) ?hgd ?ho ?hd ?hx ?_); (case hgd | ho | hd | hx => rfl); (intro b w0 l0 B0 e0 z0))
      | ((with_reducible refine wpList_load_blk 62 (.tmp 1) b r.cells 62 _ B0 Tryz.underlying62 rfl rsizeRec ?hgd ?ho ?hx ?_); (case hgd | ho | hx => rfl)))
    refine (check_walk r _ hname hf).mono ?_
    rintro e w1 ⟨rfl, hb1⟩
    rw [chkI_no HK.out]
    have hbw1 : Below w.heap.size w w1 := (e0.mono l0).trans (hb1.mono (by omega))
    clear e0 hb1
    go_wp2_with fail
    go_ret2
    exact ⟨.inr ⟨HK.out, rfl⟩, hbw1⟩
  | true =>
    have hpk := recOk_pack hok
    have HK := Lib.hid hok; clear hok
    go_enter Tryz.func135, Tryz.ntmps135
    go_wp2_with (first
      | ((with_reducible refine wpList_box_new 62 (.tmp 0) r.cells (some 1) ?hgd ?ho ?hd ?hx ?_); (case hgd | ho | hd | hx => rfl); (intro b w0 l0 B0 e0 z0))
      | ((with_reducible refine wpList_load_blk 62 (.tmp 1) b r.cells 62 _ B0 Tryz.underlying62 rfl rsizeRec ?hgd ?ho ?hx ?_); (case hgd | ho | hx => rfl)))
    refine (check_walk r _ hname hf).mono ?_
    rintro e w1 ⟨rfl, hb1⟩
    rw [chkI_yes HK.out]
    have R1 := (RecAt.blk B0).below hb1 z0
    have hbw1 : Below w.heap.size w w1 := (e0.mono l0).trans (hb1.mono (by omega))
    have hl1 : w.heap.size ≤ b := l0
    clear e0 hb1 z0 l0 B0
    obtain ⟨kind, epoch, time, count, target, till, root, name⟩ := r
    obtain ⟨r1, c0, c1, c2, c3, c4, c5, c6, c7⟩ := R1
    have HP := Lib.hid hpk; clear hpk
    go_wp2_with fail
    go_region_held3 (fun w' => w'.cell? ⟨b, 0, none⟩ = some (.int .i64 kind) ∧ w'.cell? ⟨b, 1, none⟩ = some (.int .i64 epoch) ∧ w'.cell? ⟨b, 2, none⟩ = some (.int .i64 time) ∧ w'.cell? ⟨b, 3, none⟩ = some (.int .i64 count) ∧ w'.cell? ⟨b, 4, none⟩ = some (.int .i64 target) ∧ w'.cell? ⟨b, 5, none⟩ = some (.int .i64 till)) (go_keep) ((first | (go_at_call 229; refine (widths_walk _).mono ?_; rintro e w2 ⟨v, rfl, hv, hb2⟩; have R2 : RecAt w2 b ⟨kind, epoch, time, count, target, till, root, name⟩ := (by first | exact (RecAt.mk r1 c0 c1 c2 c3 c4 c5 c6 c7 : RecAt w1 b ⟨kind, epoch, time, count, target, till, root, name⟩).below ((Below.refl _ _).drew.trans hb2) r1 | exact (RecAt.mk r1 c0 c1 c2 c3 c4 c5 c6 c7 : RecAt w1 b ⟨kind, epoch, time, count, target, till, root, name⟩).below (((Below.refl _ _).alloc (Nat.le_refl _) _).drew.trans (hb2.mono (by simp))) r1); obtain ⟨r2, p0, p1, p2, p3, p4, p5, p6, p7⟩ := R2) | (go_at_call 214; refine (opack_walk v _ widthsL [kind, epoch, time, count, target, till] _ (by first | exact hv.below ((Below.refl _ _).alloc (Nat.le_refl _) _) (Nat.le_refl _) | exact hv) (by first | exact IntRow.blk (xs := [kind, epoch, time, count, target, till]) (Blk.new w2 [.int .i64 kind, .int .i64 epoch, .int .i64 time, .int .i64 count, .int .i64 target, .int .i64 till] _) rfl 6 | exact (IntRow.blk (xs := [kind, epoch, time, count, target, till]) (Blk.drew (Blk.new w1 [.int .i64 kind, .int .i64 epoch, .int .i64 time, .int .i64 count, .int .i64 target, .int .i64 till] _)) rfl 6).below hb2 (Nat.le_refl _)) (by simp) (by simp) (by exact HP.out)).mono ?_; rintro e w3 ⟨q, rfl, tq, hb3⟩; have R3 : RecAt w3 b ⟨kind, epoch, time, count, target, till, root, name⟩ := (by first | exact (RecAt.mk r2 p0 p1 p2 p3 p4 p5 p6 p7 : RecAt w2 b ⟨kind, epoch, time, count, target, till, root, name⟩).below (((Below.refl _ _).alloc (Nat.le_refl _) _).trans (hb3.mono (by simp))) r2 | exact (RecAt.mk r2 p0 p1 p2 p3 p4 p5 p6 p7 : RecAt w2 b ⟨kind, epoch, time, count, target, till, root, name⟩).below hb3 r2); have hbb : Below w1.heap.size w1 w3 := (by first | exact (Below.refl _ _).drew.trans (hb2.trans (((Below.refl w2.heap.size w2).alloc (Nat.le_refl _) _).trans (hb3.mono (by simp)) |>.mono hb2.size)) | exact ((Below.refl w1.heap.size w1).alloc (Nat.le_refl _) _).drew.trans ((hb2.trans (hb3.mono hb2.size)).mono (by simp))); obtain ⟨r3, s0, s1, s2, s3, s4, s5, s6, s7⟩ := R3; clear p0 p1 p2 p3 p4 p5 p6 p7 c0 c1 c2 c3 c4 c5 c6 c7) | fail))
    all_goals
      clear s0 s1 s2 s3 s4 s5
      have hl32 := (recOk_facts HK.out).2.2.2.2.2.2
      have hr32 : root.size ≤ 32 := hl32.1
      have hn16 : name.size ≤ 16 := hl32.2
      have sq : q.size ≤ 29 := by rw [tq.size]; exact Nat.le_of_eq (packL_length_rec ⟨kind, epoch, time, count, target, till, root, name⟩)
      clear hl32
      go_wp2_with fail
      go_region_with ((first | (go_at_call_of 217 (Value.string root); refine (otext_walk root _ (by omega)).mono ?_; rintro e wA ⟨x, rfl, tx, hbA⟩; have ltA : b < wA.heap.size := (by first | exact Nat.lt_of_lt_of_le r3 hbA.size | exact Nat.lt_of_lt_of_le ltB hbA.size); have a6A := hbA.cell (p := ⟨b, 6, none⟩) (by first | exact r3 | exact ltB); have a7A := hbA.cell (p := ⟨b, 7, none⟩) (by first | exact r3 | exact ltB); have sA : x.size ≤ 36 := (by rw [tx.size, textL_length]; have e : root.data.toList.length = root.size := rfl; omega)) | (go_at_call_of 217 (Value.string name); refine (otext_walk name _ (by omega)).mono ?_; rintro e wB ⟨y, rfl, ty, hbB⟩; have ltB : b < wB.heap.size := (by first | exact Nat.lt_of_lt_of_le r3 hbB.size | exact Nat.lt_of_lt_of_le ltA hbB.size); have a6B := hbB.cell (p := ⟨b, 6, none⟩) (by first | exact r3 | exact ltA); have a7B := hbB.cell (p := ⟨b, 7, none⟩) (by first | exact r3 | exact ltA); have sB : y.size ≤ 36 := (by rw [ty.size, textL_length]; have e : name.data.toList.length = name.size := rfl; omega))))
      all_goals go_wp2_with fail
      all_goals go_ret2
      all_goals refine ⟨.inl ⟨HK.out, _, rfl, (tq.append tx).append ty⟩, ?_⟩
      all_goals (have hz3 := hbb.size; have hz1 := hbw1.size)
      all_goals first
        | exact hbw1.trans ((hbb.trans ((Below.refl w3.heap.size w3).drew.trans (hbA.trans (hbB.mono hbA.size)) |>.mono hbb.size)).mono hz1)
        | exact hbw1.trans ((hbb.trans ((Below.refl w3.heap.size w3).drew.trans (hbB.trans (hbA.mono hbB.size)) |>.mono hbb.size)).mono hz1)

end Go.Proofs.YtppdboadjefieaaGreat

