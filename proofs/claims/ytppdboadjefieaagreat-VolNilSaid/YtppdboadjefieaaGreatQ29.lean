/- An epoch of one cell: its segment (chapter 26). The states of chapter 26's example. No program in sight. A volume is formatted (chapter 26): Mount, Format. Walk of chapter 26's example. Looks at a volume that is none, and at a disk that is none (chapter 26). -/
import Derived.Test.YtppdboadjefieaaGreatQ28
import Derived.Test.YtppdboadjefieaaGreatQ17
import Derived.Test.YtppdboadjefieaaGreatQ24
import Derived.Test.YtppdboadjefieaaGreatQ15
import Derived.Test.YtppdboadjefieaaGreatQ27
set_option linter.unusedSimpArgs false
set_option linter.unusedVariables false
namespace Go.Proofs.YtppdboadjefieaaGreat
open Go Go.RowKit Go.Maps Go.WideMaps
set_option maxRecDepth 100000

theorem segC_one (i : VolI) (v : VolD) (x : VersD) (c : CellD) (ok : VolOk v) (e0 : 0 ≤ v.epoch) (e1 : v.epoch ≤ 4294967295) (hE : ofE v.vers v.epoch = [x]) (hx : x.slot = c.slot) (hvn : v.vers.length ≤ 4096)
    (h0 : 0 ≤ c.slot) (h1 : c.slot < v.used) (hc : CellOk c) (hg : c.gone = false) (hl0 : 0 ≤ c.lba) (hl1 : c.lba < 4096) (hb : Txt (v.d.shown (4 + c.slot)) (cellL c)) : SegC i v 1 (root1 v.epoch c) := by
  refine ⟨by decide, by decide, root1_length _ _, fun w ps => ∃ B, SegAt w ps B 1 v.epoch (segD v.epoch c 1), fun wx hx' => ?_, ?_, ?_⟩
  · refine (vsegment1_walk i v v.epoch x c wx hx' ok e0 e1 hE hx hvn h0 h1 hc hg hl0 hl1 hb).mono ?_
    rintro e w' ⟨⟨ps, B, he, hs⟩, hb'⟩
    exact ⟨⟨ps, he, B, hs⟩, hb'⟩
  · rintro wx ps ⟨B, hs⟩
    exact segCount1_walk ps B v.epoch c wx hs
  · rintro wx ps ⟨B, hs⟩
    exact segRoot1_walk ps B v.epoch c wx hs hl0 hl1
end Go.Proofs.YtppdboadjefieaaGreat

namespace Go.Proofs.YtppdboadjefieaaGreat
open Go Go.RowKit
set_option maxRecDepth 100000

theorem form_calm (n : Nat) (v : Value) (i : Nat) (kb q : ByteArray) : Calm (formDisk n v i kb q) n 0 :=
  ⟨rfl, rfl, by show (((List.replicate n noughtB).set i kb).set 1 q).length = n; simp, fun j p hj => by simp [formDisk] at hj, Nat.le_refl _⟩
def al0 (key data kb q : ByteArray) (vv : Value) : VolD := volNew key data 1 0 12 4 0 0 (formDisk 12 vv 2 kb q)
theorem al0_ok (key data kb q : ByteArray) (vv : Value) : VolOk (al0 key data kb q vv) := by
  refine ⟨⟨⟨?_, ?_, ?_, ?_, ?_, ?_⟩, ?_, ?_, ?_, ?_, ?_, ?_, ?_, ?_⟩, ?_, ?_, form_calm 12 vv 2 kb q⟩ <;> simp [al0, volNew]
def al1 (key data kb q : ByteArray) (vv : Value) (b1 : ByteArray) (c1 : Value) : VolD := wroteV (al0 key data kb q vv) 1 b1 c1
theorem al1_calm (key data kb q : ByteArray) (vv : Value) (b1 : ByteArray) (c1 : Value) : Calm (al1 key data kb q vv b1 c1).d 12 1 :=
  (form_calm 12 vv 2 kb q).put (i := 4 + 0) (by decide) (by decide) c1 b1
theorem al1_ok (key data kb q : ByteArray) (vv : Value) (b1 : ByteArray) (c1 : Value) : VolOk (al1 key data kb q vv b1 c1) := by
  refine ⟨⟨⟨?_, ?_, ?_, ?_, ?_, ?_⟩, ?_, ?_, ?_, ?_, ?_, ?_, ?_, ?_⟩, ?_, ?_, al1_calm key data kb q vv b1 c1⟩ <;> simp [al1, al0, volNew, wroteV]
theorem al1_shown (key data kb q : ByteArray) (vv : Value) (b1 : ByteArray) (c1 : Value) : (al1 key data kb q vv b1 c1).d.shown (4 + 0) = b1 := by
  exact (shown_put (formDisk 12 vv 2 kb q) c1 (4 + 0) (4 + 0) b1).trans (if_pos rfl)
theorem al1_close (key data kb q : ByteArray) (vv : Value) (b1 : ByteArray) (c1 : Value) (hk : key.size = 32) : CloseOk (al1 key data kb q vv b1 c1) := by
  refine ⟨al1_ok key data kb q vv b1 c1, hk, ?_, ?_, ?_, ?_, (show SldTame [] from fun j x hx => by simp at hx), rfl, ?_, ?_, ?_, ?_, ?_, ?_⟩ <;> simp [al1, al0, volNew, wroteV]
theorem al1_seg (i : VolI) (key data kb q : ByteArray) (vv : Value) (b1 cph : ByteArray) (c1 : Value) (hc : CellOk ⟨0, 0, 1, false, cph⟩) (hb : Txt b1 (cellL ⟨0, 0, 1, false, cph⟩)) :
    SegC i (al1 key data kb q vv b1 c1) 1 (root1 0 ⟨0, 0, 1, false, cph⟩) :=
  segC_one i (al1 key data kb q vv b1 c1) ⟨1, 0, 0⟩ ⟨0, 0, 1, false, cph⟩ (al1_ok key data kb q vv b1 c1) (by simp [al1, al0, volNew, wroteV]) (by simp [al1, al0, volNew, wroteV]) (by simp [al1, al0, volNew, wroteV, ofE]) rfl (by simp [al1, al0, volNew, wroteV]) (show (0 : Int) ≤ 0 by decide) (by simp [al1, al0, volNew, wroteV]) hc rfl (show (0 : Int) ≤ 1 by decide) (show (1 : Int) < 4096 by decide) (al1_shown key data kb q vv b1 c1 ▸ hb)
def al2 (key data kb q : ByteArray) (vv : Value) (b1 : ByteArray) (c1 : Value) (s t bl nk kb2 q2 nb : ByteArray) : VolD :=
  { al1 key data kb q vv b1 c1 with used := (al1 key data kb q vv b1 c1).used + 1, last := closeSup (al1 key data kb q vv b1 c1) (al1 key data kb q vv b1 c1).clock, d := closeDisk (al1 key data kb q vv b1 c1) bl kb2 q2 nb, key := nk, sealed := (al1 key data kb q vv b1 c1).sealed ++ [⟨closeR (al1 key data kb q vv b1 c1) 1 s, t⟩], epoch := (al1 key data kb q vv b1 c1).epoch + 1, now := (al1 key data kb q vv b1 c1).clock }
theorem al2_calm (key data kb q : ByteArray) (vv : Value) (b1 : ByteArray) (c1 : Value) (s t bl nk kb2 q2 nb : ByteArray) : Calm (al2 key data kb q vv b1 c1 s t bl nk kb2 q2 nb).d 12 0 :=
  closeDisk_calm (al1_calm key data kb q vv b1 c1) (by simp [al1, al0, volNew, wroteV]) (by simp [al1, al0, volNew, wroteV]) (by decide) bl kb2 q2 nb
theorem al2_ok (key data kb q : ByteArray) (vv : Value) (b1 : ByteArray) (c1 : Value) (s t bl nk kb2 q2 nb : ByteArray) : VolOk (al2 key data kb q vv b1 c1 s t bl nk kb2 q2 nb) := by
  refine ⟨⟨⟨?_, ?_, ?_, ?_, ?_, ?_⟩, ?_, ?_, ?_, ?_, ?_, ?_, ?_, ?_⟩, ?_, ?_, (al2_calm key data kb q vv b1 c1 s t bl nk kb2 q2 nb).mono (Nat.zero_le _)⟩ <;> simp [al2, al1, al0, volNew, wroteV, closeSup]
theorem al2_shown (key data kb q : ByteArray) (vv : Value) (b1 : ByteArray) (c1 : Value) (s t bl nk kb2 q2 nb : ByteArray) : (al2 key data kb q vv b1 c1 s t bl nk kb2 q2 nb).d.shown (4 + 0) = b1 := by
  refine (closeDisk_shown (al1_calm key data kb q vv b1 c1) (by simp [al1, al0, volNew, wroteV]) (by simp [al1, al0, volNew, wroteV]) (by decide) bl kb2 q2 nb (4 + 0) (by decide)).trans ?_
  rw [if_neg (by simp [al1, al0, volNew, wroteV])]
  exact al1_shown key data kb q vv b1 c1
def al3 (key data kb q : ByteArray) (vv : Value) (b1 : ByteArray) (c1 : Value) (s t bl nk kb2 q2 nb b2 : ByteArray) (c2 : Value) : VolD := wroteV (al2 key data kb q vv b1 c1 s t bl nk kb2 q2 nb) 1 b2 c2
theorem al3_calm (key data kb q : ByteArray) (vv : Value) (b1 : ByteArray) (c1 : Value) (s t bl nk kb2 q2 nb b2 : ByteArray) (c2 : Value) : Calm (al3 key data kb q vv b1 c1 s t bl nk kb2 q2 nb b2 c2).d 12 1 :=
  (al2_calm key data kb q vv b1 c1 s t bl nk kb2 q2 nb).put (i := 4 + (0 + 1 + 1)) (by decide) (by decide) c2 b2
theorem al3_ok (key data kb q : ByteArray) (vv : Value) (b1 : ByteArray) (c1 : Value) (s t bl nk kb2 q2 nb b2 : ByteArray) (c2 : Value) : VolOk (al3 key data kb q vv b1 c1 s t bl nk kb2 q2 nb b2 c2) := by
  refine ⟨⟨⟨?_, ?_, ?_, ?_, ?_, ?_⟩, ?_, ?_, ?_, ?_, ?_, ?_, ?_, ?_⟩, ?_, ?_, (al3_calm key data kb q vv b1 c1 s t bl nk kb2 q2 nb b2 c2).mono (by simp [al3, al2, al1, al0, volNew, wroteV])⟩ <;> simp [al3, al2, al1, al0, volNew, wroteV, closeSup]
theorem al3_shown0 (key data kb q : ByteArray) (vv : Value) (b1 : ByteArray) (c1 : Value) (s t bl nk kb2 q2 nb b2 : ByteArray) (c2 : Value) : (al3 key data kb q vv b1 c1 s t bl nk kb2 q2 nb b2 c2).d.shown (4 + 0) = b1 :=
  (shown_put (al2 key data kb q vv b1 c1 s t bl nk kb2 q2 nb).d c2 (4 + (0 + 1 + 1)) (4 + 0) b2).trans ((if_neg (by decide)).trans (al2_shown key data kb q vv b1 c1 s t bl nk kb2 q2 nb))
theorem al3_shown2 (key data kb q : ByteArray) (vv : Value) (b1 : ByteArray) (c1 : Value) (s t bl nk kb2 q2 nb b2 : ByteArray) (c2 : Value) : (al3 key data kb q vv b1 c1 s t bl nk kb2 q2 nb b2 c2).d.shown (4 + 2) = b2 :=
  (shown_put (al2 key data kb q vv b1 c1 s t bl nk kb2 q2 nb).d c2 (4 + (0 + 1 + 1)) (4 + 2) b2).trans (if_pos (by decide))
theorem al2_lt (key data kb q : ByteArray) (vv : Value) (b1 : ByteArray) (c1 : Value) (s t bl nk kb2 q2 nb : ByteArray) (k : Nat) (x : VersD) (hx : (al2 key data kb q vv b1 c1 s t bl nk kb2 q2 nb).vers[k]? = some x) : cmpV x ⟨1, (al2 key data kb q vv b1 c1 s t bl nk kb2 q2 nb).epoch, (al2 key data kb q vv b1 c1 s t bl nk kb2 q2 nb).used⟩ < 0 := by
  have h : ([⟨1, 0, 0⟩] : List VersD)[k]? = some x := hx
  match k, h with
  | 0, h => obtain rfl := Option.some.inj h; show cmpV ⟨1, 0, 0⟩ ⟨1, 0 + 1, 0 + 1 + 1⟩ < 0; decide
  | k + 1, h => simp at h
theorem two26 {k : Nat} {x : VersD} (h : ([⟨1, 0, 0⟩, ⟨1, 1, 2⟩] : List VersD)[k]? = some x) : (k = 0 ∧ x = ⟨1, 0, 0⟩) ∨ (k = 1 ∧ x = ⟨1, 1, 2⟩) := by
  match k, h with
  | 0, h => exact .inl ⟨rfl, (Option.some.inj h).symm⟩
  | 1, h => exact .inr ⟨rfl, (Option.some.inj h).symm⟩
  | k + 2, h => simp at h
theorem newest26_0 : NewestIs [⟨1, 0, 0⟩, ⟨1, 1, 2⟩] 1 0 ⟨1, 0, 0⟩ := by
  refine ⟨⟨0, ⟨by decide, fun t x hx ht => ?_, fun t x hx ht => ?_⟩, rfl⟩, rfl, fun i j a b ha hb hij hb' => ?_⟩
  · rcases two26 hx with ⟨rfl, rfl⟩ | ⟨rfl, rfl⟩
    · decide
    · omega
  · rcases two26 hx with ⟨rfl, rfl⟩ | ⟨rfl, rfl⟩
    · omega
    · decide
  · rcases two26 ha with ⟨rfl, rfl⟩ | ⟨rfl, rfl⟩
    · decide
    · rcases two26 hb with ⟨rfl, rfl⟩ | ⟨rfl, rfl⟩
      · omega
      · exact hb'
theorem newest26_1 : NewestIs [⟨1, 0, 0⟩, ⟨1, 1, 2⟩] 1 1 ⟨1, 1, 2⟩ := by
  refine ⟨⟨1, ⟨by decide, fun t x hx ht => ?_, fun t x hx ht => ?_⟩, rfl⟩, rfl, fun i j a b ha hb hij hb' => ?_⟩
  · rcases two26 hx with ⟨rfl, rfl⟩ | ⟨rfl, rfl⟩ <;> decide
  · rcases two26 hx with ⟨rfl, rfl⟩ | ⟨rfl, rfl⟩ <;> omega
  · rcases two26 ha with ⟨rfl, rfl⟩ | ⟨rfl, rfl⟩ <;> decide
end Go.Proofs.YtppdboadjefieaaGreat

namespace Go.Proofs.YtppdboadjefieaaGreat
open Go Go.RowKit
set_option maxRecDepth 100000

theorem vmount_walk (db n ep : Nat) (lbas : Int) (v : Value) (key data kb q : ByteArray) (w : World) (hg : GeoOk ⟨(n : Int), lbas, (ep : Int)⟩) (hk : key.size = 32) (tk : Txt kb (keyL (ep : Int) key.data.toList)) (tq : Txt q (supL ⟨1, 0, ep, 0, ⟨(n : Int), lbas, (ep : Int)⟩⟩))
    (hdata : data.size = 16) (h : DiskAt w db (formDisk n v (2 + ep % 2) kb q)) :
    Calls Tryz.prog 25 #[.pointer (some ⟨db, 0, none⟩), .string data] w fun e w' => (∃ vb jb sb xb bb cb c2 m1 m2 m3, e = .returned (.tuple #[.pointer (some ⟨vb, 0, none⟩), .int .i64 0]) ∧ VolNew w' w.heap.size vb jb sb db xb bb cb c2 m1 m2 m3 none key data 1 0 n lbas ep ep (formDisk n v (2 + ep % 2) kb q)) ∧ Below w.heap.size w w' := by
  have HM := Lib.hid (form_mount db n ep none lbas v key data kb q w hg hk tk tq hdata h)
  clear h hdata tq tk hk hg
  go_enter Tryz.func25, Tryz.ntmps25
  go_wp2_with fail
  refine HM.out.mono ?_
  rintro e w1 ⟨⟨vb, jb, sb, xb, bb, cb, c2, m1, m2, m3, rfl, hv⟩, hb⟩
  have HV := Lib.hid hv
  have HB := Lib.hid hb
  clear hv hb
  go_wp2_with fail
  go_ret2
  exact ⟨⟨vb, jb, sb, xb, bb, cb, c2, m1, m2, m3, rfl, HV.out⟩, HB.out⟩
set_option maxHeartbeats 4000000 in
theorem vformat_walk (db n ep : Nat) (lbas : Int) (v : Value) (root : ByteArray) (w : World) (hg : GeoOk ⟨(n : Int), lbas, (ep : Int)⟩) (hr : root.size = 32) (h : DiskAt w db (newDisk n v)) :
    Calls Tryz.prog 24 #[.pointer (some ⟨db, 0, none⟩), (⟨(n : Int), lbas, (ep : Int)⟩ : GeoD).v, .string root] w fun e w' => ∃ (vb jb sb xb bb cb c2 m1 m2 m3 : Nat) (key data kb q : ByteArray), e = .returned (.tuple #[.pointer (some ⟨vb, 0, none⟩), .int .i64 0]) ∧
      Txt data (longL root.data.toList [100, 97, 116, 97] 16) ∧ Txt key (madeL root.data.toList [115, 101, 97, 108] [ep]) ∧ Txt kb (keyL (ep : Int) key.data.toList) ∧ Txt q (supL ⟨1, 0, ep, 0, ⟨(n : Int), lbas, (ep : Int)⟩⟩) ∧
      DiskTo w w' db (newDisk n v) (formDisk n v (2 + ep % 2) kb q) ∧ VolNew w' w.heap.size vb jb sb db xb bb cb c2 m1 m2 m3 none key data 1 0 n lbas ep ep (formDisk n v (2 + ep % 2) kb q) := by
  obtain ⟨g, Hg⟩ : ∃ g, Hid (g = (⟨(n : Int), lbas, (ep : Int)⟩ : GeoD)) := ⟨_, rfl⟩
  have HGF := Lib.hid (show g.first = (ep : Int) by rw [Hg.out])
  have HDw := Lib.hid h
  have HG0 := Lib.hid hg
  have HEP := Lib.hid (show (ep : Int) ≤ 4294967295 from by have := hg.f1; simp only at this; omega)
  have HR := Lib.hid hr
  have hfo : ∀ (wx : World) (key : ByteArray), key.size = 32 → DiskAt wx db (newDisk n v) → Calls Tryz.prog 80 #[.pointer (some ⟨db, 0, none⟩), .agg g.cells.toArray, .string key] wx fun e w' => e = .returned (.int .i64 0) ∧ ∃ kb q, Txt kb (keyL (ep : Int) key.data.toList) ∧ Txt q (supL ⟨1, 0, ep, 0, (⟨(n : Int), lbas, (ep : Int)⟩ : GeoD)⟩) ∧ DiskTo wx w' db (newDisk n v) (formDisk n v (2 + ep % 2) kb q) := by
    intro wx key hk hx
    rw [Hg.out]
    exact format_walk db n ep lbas v key wx hx hg hk
  have HFO := Lib.hid hfo
  rw [← Hg.out]
  have HGG := Lib.hid (show GeoOk g from by rw [Hg.out]; exact hg)
  clear h hg hr hfo
  go_enter Tryz.func24, Tryz.ntmps24
  go_wp2_with (first
    | ((with_reducible refine wpList_box_new 23 (.tmp 1) g.cells (some 4) ?hgd ?ho ?hd ?hx ?_); (case hgd | ho | hd | hx => rfl); (intro b4 wa l4 B4 e4 z4))
    | fail)
  have HBEa := Lib.hid (e4.mono l4)
  have HBa := Lib.hid B4
  have HL4 := Lib.hid l4
  have HDa := Lib.hid (HDw.out.below HBEa.out)
  clear B4 e4 z4 l4
  refine (dataKey_walk root _).mono ?_
  rintro e wb ⟨he, hbb⟩
  obtain ⟨data, rfl, td⟩ := he.yes HR.out
  have HTD := Lib.hid td
  have HBb := Lib.hid (HBa.out.below hbb HBa.out.lt)
  have HBEb := Lib.hid (HBEa.out.trans (hbb.mono HBEa.out.size))
  have HDb := Lib.hid (HDa.out.below hbb)
  clear hbb td he
  go_wp2_with (first
    | ((with_reducible refine wpList_load_blk 23 (.tmp 4) b4 g.cells 23 _ HBb.out Tryz.underlying23 rfl sizeGeo ?hgd ?ho ?hx ?_); (case hgd | ho | hx => rfl))
    | fail)
  refine (geomCheck_walk g _ HGG.out).mono ?_
  rintro e wc ⟨rfl, hbc⟩
  have HBc := Lib.hid (HBb.out.below hbc HBb.out.lt)
  have HBEc := Lib.hid (HBEb.out.trans (hbc.mono HBEb.out.size))
  have HDc := Lib.hid (HDb.out.below hbc)
  have q2 : wc.cell? ⟨b4, 2, none⟩ = some (.int .i64 (ep : Int)) := by rw [← HGF.out]; exact HBc.out.cell (i := 2) rfl
  clear hbc
  go_wp2_with fail
  refine (firstKey_walk root (ep : Int) _).mono ?_
  rintro e wd ⟨he, hbd⟩
  obtain ⟨key, rfl, tk⟩ := he.yes ⟨by omega, HEP.out, HR.out⟩
  have HTK := Lib.hid (show Txt key (madeL root.data.toList [115, 101, 97, 108] [ep]) from tk.cast (by rw [Int.toNat_natCast]))
  have HBd := Lib.hid (HBc.out.below hbd HBc.out.lt)
  have HBEd := Lib.hid (HBEc.out.trans (hbd.mono HBEc.out.size))
  have HDd := Lib.hid (HDc.out.below hbd)
  clear hbd tk he q2
  go_wp2_with (first
    | ((with_reducible refine wpList_load_blk 23 (.tmp 4) b4 g.cells 23 _ HBd.out Tryz.underlying23 rfl sizeGeo ?hgd ?ho ?hx ?_); (case hgd | ho | hx => rfl))
    | fail)
  have HKS := Lib.hid (show key.size = 32 from by rw [HTK.out.size, madeL_length])
  have HDS := Lib.hid (show data.size = 16 from by rw [HTD.out.size, longL_length])
  refine (HFO.out _ key HKS.out HDd.out).mono ?_
  rintro e we ⟨rfl, kb, q, tkb, tq, hdt⟩
  have HTKB := Lib.hid tkb
  have HTQ := Lib.hid tq
  have HDT := Lib.hid hdt
  clear tkb tq hdt
  go_wp2_with fail
  refine (vmount_walk db n ep lbas v key data kb q _ HG0.out HKS.out HTKB.out HTQ.out HDS.out HDT.out.at').mono ?_
  rintro e wf ⟨⟨vb, jb, sb, xb, bb, cb, c2, m1, m2, m3, rfl, hv⟩, hbf⟩
  have HV := Lib.hid hv
  have HDF := Lib.hid (DiskTo.ahead HBEd.out (HDT.out.below hbf))
  have HSZ := Lib.hid (show w.heap.size ≤ we.heap.size from Nat.le_trans HBEd.out.size HDT.out.turned.size)
  clear hv hbf
  go_wp2_with fail
  go_ret2
  exact ⟨vb, jb, sb, xb, bb, cb, c2, m1, m2, m3, key, data, kb, q, rfl, HTD.out, HTK.out, HTKB.out, (by rw [Hg.out]; exact HTQ.out), HDF.out, HV.out.lower HSZ.out⟩
end Go.Proofs.YtppdboadjefieaaGreat

namespace Go.Proofs.YtppdboadjefieaaGreat
open Go Go.RowKit
set_option maxRecDepth 100000

theorem al_make (v : VolD) (s t : ByteArray) (hs : s.size = 32) (ht : t.size = 32) (h0 : v.sealed = []) (he : v.epoch = 0) (hc : v.clock = 0) :
    makeS (v.sealed ++ [⟨closeR v 1 s, t⟩]) (v.sealed.length : Int) = (⟨0, ⟨1, 0, 0, 1, 0, 0, s, ⟨#[]⟩⟩, ⟨(List.replicate 32 (0 : UInt8)).toArray⟩, t⟩, 0) := by
  rw [h0]
  have h6 : ByteArray.size (⟨#[]⟩ : ByteArray) = 0 := rfl
  have h7 : ByteArray.size (⟨(List.replicate 32 (0 : UInt8)).toArray⟩ : ByteArray) = 32 := rfl
  have hr : rcpAt [⟨closeR v 1 s, t⟩] 0 ⟨closeR v 1 s, t⟩ = ⟨0, ⟨1, 0, 0, 1, 0, 0, s, ⟨#[]⟩⟩, ⟨(List.replicate 32 (0 : UInt8)).toArray⟩, t⟩ := by
    unfold rcpAt closeR lastB
    rw [he, hc]
    rfl
  have ho : ∀ was : ByteArray, was.size = 32 → rcpOk (⟨0, ⟨1, 0, 0, 1, 0, 0, s, ⟨#[]⟩⟩, was, t⟩ : Rcp) = true := by
    intro was hw
    simp [rcpOk, recOk, recKind, hs, ht, h6, hw]
  have hc : closeAt [⟨closeR v 1 s, t⟩] (([] : List Sld).length : Int) = some ⟨closeR v 1 s, t⟩ := by
    simp [closeAt, closeR]
  unfold makeS
  rw [List.nil_append, hc]
  show (if rcpOk (rcpAt [⟨closeR v 1 s, t⟩] 0 ⟨closeR v 1 s, t⟩) = true then (rcpAt [⟨closeR v 1 s, t⟩] 0 ⟨closeR v 1 s, t⟩, 0) else (Rcp.zero, 2)) = _
  rw [hr, if_pos (ho _ h7)]
theorem back26 {r c : ByteArray} {l : List UInt8} {k : List UInt8} {e u : Nat} (hc : Txt c (xorL l (streamL k e u l.length))) (hr : Txt r (xorL c.data.toList (streamL k e u c.size))) : Txt r l := by
  have h1 : c.size = l.length := by rw [hc.size, xorL_length]
  rw [h1] at hr
  exact hr.cast (by rw [show c.data.toList = _ from hc, xorL_back])
set_option maxHeartbeats 4000000 in
theorem alive26 (w : World) :
    Calls Tryz.prog 18 #[] w fun e w' => e = .returned (.bool true) ∧ Below w.heap.size w w' := by
  go_enter Tryz.func18, Tryz.ntmps18
  go_wp2_with fail
  refine (show Calls Tryz.prog 15 #[.int .i64 12] w _ from dnew_walk 12 w (by decide) (by decide)).mono ?_
  rintro e w1 ⟨⟨db, vv, rfl, hd, hdf⟩, hb1⟩
  have HD := Lib.hid hd
  have HDF := Lib.hid hdf
  have HB1 := Lib.hid hb1
  clear hd hdf hb1
  go_wp2_with (first
    | ((with_reducible refine wpList_build_eq 23 ?partsg (GeoD.cells ⟨12, 4, 0⟩) ?hg ?ho ?hf ?_); (case hg | ho => rfl); (case hf => exact builtGeo26))
    | fail)
  refine (show Calls Tryz.prog 24 #[.pointer (some ⟨db, 0, none⟩), (⟨12, 4, 0⟩ : GeoD).v, .string (⟨#[48, 49, 50, 51, 52, 53, 54, 55, 56, 57, 97, 98, 99, 100, 101, 102, 48, 49, 50, 51, 52, 53, 54, 55, 56, 57, 97, 98, 99, 100, 101, 102]⟩ : ByteArray)] w1 _ from vformat_walk db 12 0 4 vv (⟨#[48, 49, 50, 51, 52, 53, 54, 55, 56, 57, 97, 98, 99, 100, 101, 102, 48, 49, 50, 51, 52, 53, 54, 55, 56, 57, 97, 98, 99, 100, 101, 102]⟩ : ByteArray) w1 ⟨by decide, by decide, by decide, by decide, by decide, by decide⟩ (by decide) HD.out).mono ?_
  rintro e w2 ⟨vb, jb, sb, xb, bb, cb, cc, m1, m2, m3, key, data, kb, q, rfl, td, tk, tkb, tq, hdt, hv⟩
  obtain ⟨i, hi⟩ : ∃ i, i = volINew vb jb sb db xb bb cb cc m1 m2 m3 none := ⟨_, rfl⟩
  have HV := Lib.hid (show VolAt w2 i (al0 key data kb q vv) from by rw [hi]; exact hv.at)
  have hvb : vb = i.vb := by rw [hi]; rfl
  have HRV := Lib.hid (show i.rv = .pointer none from by rw [hi]; rfl)
  have HKS := Lib.hid (show key.size = 32 from by rw [tk.size, madeL_length])
  have HDS := Lib.hid (show data.size = 16 from by rw [td.size, longL_length])
  have HF := Lib.hid (show ∀ x, x ∈ i.foot (al0 key data kb q vv).d → w.heap.size ≤ x from by
    rw [hi]
    exact hv.foot_ge HB1.out.size (fun x hx => (hdt.foot x hx).elim (HDF.out x) (fun h => Nat.le_trans HB1.out.size h)))
  have HBE2 := Lib.hid (show Below w.heap.size w w2 from hdt.turned.below HB1.out (fun x hx => HDF.out x hx) HB1.out.size)
  clear td tk tkb tq hdt hv
  clear hi
  subst hvb
  have HIDX := Lib.hid (show ∀ (l : List VersD) (t : Nat) (x : VersD), l = [] → l[t]? = some x → False from fun l t x hl hx => by rw [hl] at hx; simp at hx)
  go_wp2_with fail
  refine (write_walk i (al0 key data kb q vv) 1 (⟨#[97]⟩ : ByteArray) w2 HV.out (al0_ok key data kb q vv) (by show (0 : Int) < 12 - 5; decide) (by decide) (by show (1 : Int) < 4; decide) (by decide) HDS.out (by show (0 : Int) ≤ 0; decide) (by show (0 : Int) ≤ 4294967295; decide) (by show (0 : Nat) ≤ 1048575; decide) (fun t x hx => absurd hx (by show ¬ ([] : List VersD)[t]? = some x; simp))).mono ?_
  rintro e w3 ⟨rfl, c1, xv1, p1, b1, tc1, tb1, ok1, ht1⟩
  have HT1 := Lib.hid (show VolTo w2 w3 i (al0 key data kb q vv) { i with xv := xv1 } (al1 key data kb q vv b1 c1) from ht1)
  have HC1 := Lib.hid (show Txt p1 (xorL [97] (streamL data.data.toList 0 0 [97].length)) from tc1)
  have HB1 := Lib.hid (show Txt b1 (cellL ⟨0, 0, 1, false, p1⟩) from tb1)
  have HK1 := Lib.hid (show CellOk ⟨0, 0, 1, false, p1⟩ from ok1)
  clear tc1 tb1 ok1 ht1
  go_wp2_with fail
  refine (closeEpoch_walk { i with xv := xv1 } (al1 key data kb q vv b1 c1) 1 (root1 0 ⟨0, 0, 1, false, p1⟩) w3 HT1.out.at' HRV.out (al1_close key data kb q vv b1 c1 HKS.out) (al1_seg { i with xv := xv1 } key data kb q vv b1 p1 c1 HK1.out HB1.out)).mono ?_
  rintro e w4 ⟨s, t, bl, nk, kb2, q2, nb, sv, ts, tt, tbl, tn, tkb2, tq2, hnb, he, ht2⟩
  rw [al_make (al1 key data kb q vv b1 c1) s t (by rw [ts.size, root1_length]) (by rw [tt.size, tagC_length]) rfl rfl rfl] at he
  obtain ⟨was, hwas⟩ : ∃ was, was = (⟨(List.replicate 32 (0 : UInt8)).toArray⟩ : ByteArray) := ⟨_, rfl⟩
  rw [← hwas] at he
  dsimp only [Rcp.v] at he
  subst he
  have HT2 := Lib.hid (show VolTo w3 w4 { i with xv := xv1 } (al1 key data kb q vv b1 c1) { i with xv := xv1, sv := sv } (al2 key data kb q vv b1 c1 s t bl nk kb2 q2 nb) from ht2)
  clear ts tt tbl tn tkb2 tq2 hnb ht2 hwas
  go_wp2_with (first
    | ((with_reducible refine wpList_alloc_new 64 _ zeroRcp (some 5) ?hgd ?ho ?hd ?_); (case hgd | ho | hd => rfl); (intro b5 w5 l5 B5 e5 z5))
    | ((with_reducible refine wpList_store_new 64 (.tmp 5) (.tmp 36) b5 Rcp.zero.cells (Rcp.cells ⟨0, ⟨1, 0, 0, 1, 0, 0, s, ⟨#[]⟩⟩, was, t⟩) 64 B5 rfl rsizeRcp (Rcp.cells_one _) ?hgd ?ho ?hx ?hy ?_); (case hgd | ho | hx | hy => rfl); (intro w6 B6 o6))
    | fail)
  have hb6 : Below w4.heap.size w4 w6 := o6.below (e5.mono l5) l5
  have HX6 := Lib.hid B6
  have HL5 := Lib.hid l5
  have HT6 := Lib.hid (HT2.out.below hb6)
  have HN5 := Lib.hid (HT2.out.at'.fresh l5)
  clear B5 e5 z5 B6 o6 l5 hb6
  refine (write_walk { i with xv := xv1, sv := sv } (al2 key data kb q vv b1 c1 s t bl nk kb2 q2 nb) 1 (⟨#[98]⟩ : ByteArray) w6 HT6.out.at' (al2_ok key data kb q vv b1 c1 s t bl nk kb2 q2 nb) (by show (0 + 1 + 1 : Int) < 12 - 5; decide) (by decide) (by show (1 : Int) < 4; decide) (by decide) HDS.out (by show (0 : Int) ≤ 0 + 1; decide) (by show (0 + 1 : Int) ≤ 4294967295; decide) (by show (1 : Nat) ≤ 1048575; decide) (al2_lt key data kb q vv b1 c1 s t bl nk kb2 q2 nb)).mono ?_
  rintro e w7 ⟨rfl, c2, xv2, p2, b2, tc2, tb2, ok2, ht3⟩
  have HT3 := Lib.hid (show VolTo w6 w7 { i with xv := xv1, sv := sv } (al2 key data kb q vv b1 c1 s t bl nk kb2 q2 nb) { i with xv := xv2, sv := sv } (al3 key data kb q vv b1 c1 s t bl nk kb2 q2 nb b2 c2) from ht3)
  have HC2 := Lib.hid (show Txt p2 (xorL [98] (streamL data.data.toList 1 2 [98].length)) from tc2)
  have HB2 := Lib.hid (show Txt b2 (cellL ⟨1, 2, 1, false, p2⟩) from tb2)
  have HK2 := Lib.hid (show CellOk ⟨1, 2, 1, false, p2⟩ from ok2)
  have HX7 := Lib.hid (ht3.turned.blk HX6.out HN5.out)
  clear tc2 tb2 ok2 ht3
  go_wp2_with fail
  refine (readAt_walk { i with xv := xv2, sv := sv } (al3 key data kb q vv b1 c1 s t bl nk kb2 q2 nb b2 c2) 1 0 ⟨1, 0, 0⟩ 0 0 1 p1 w7 HT3.out.at' (al3_ok key data kb q vv b1 c1 s t bl nk kb2 q2 nb b2 c2) HDS.out (by decide) (by show (1 : Int) < 4; decide) (by show (0 : Int) ≤ 0; decide) (by show (0 : Int) ≤ 0 + 1; decide) newest26_0 (by show (2 : Nat) ≤ 1048576; decide) ⟨by decide, by decide⟩ rfl rfl (by show (0 : Int) < 0 + 1 + 1 + 1; decide) (by decide) HK1.out (al3_shown0 key data kb q vv b1 c1 s t bl nk kb2 q2 nb b2 c2 ▸ HB1.out)).mono ?_
  rintro e w8 ⟨⟨ra, rfl, tra⟩, hb8⟩
  have HRA := Lib.hid (back26 HC1.out tra)
  have HT8 := Lib.hid (HT3.out.below hb8)
  have HX8 := Lib.hid (HX7.out.below hb8 HX7.out.lt)
  clear tra hb8
  go_wp2_with fail
  refine (read_walk { i with xv := xv2, sv := sv } (al3 key data kb q vv b1 c1 s t bl nk kb2 q2 nb b2 c2) 1 ⟨#[]⟩ w8 HT8.out.at' [98] (fun wx hx => ?_)).mono ?_
  · refine (readAt_walk { i with xv := xv2, sv := sv } (al3 key data kb q vv b1 c1 s t bl nk kb2 q2 nb b2 c2) 1 1 ⟨1, 1, 2⟩ 1 2 1 p2 wx hx (al3_ok key data kb q vv b1 c1 s t bl nk kb2 q2 nb b2 c2) HDS.out (by decide) (by show (1 : Int) < 4; decide) (by show (0 : Int) ≤ 1; decide) (by show (1 : Int) ≤ 0 + 1; decide) newest26_1 (by show (2 : Nat) ≤ 1048576; decide) ⟨by decide, by decide⟩ rfl rfl (by show (2 : Int) < 0 + 1 + 1 + 1; decide) (by decide) HK2.out (al3_shown2 key data kb q vv b1 c1 s t bl nk kb2 q2 nb b2 c2 ▸ HB2.out)).mono ?_
    rintro e wy ⟨⟨rb, rfl, trb⟩, hby⟩
    exact ⟨⟨rb, rfl, back26 HC2.out trb⟩, hby⟩
  rintro e w9 ⟨⟨rb, rfl, trb⟩, hb9⟩
  have HBE9 := Lib.hid (show Below w.heap.size w w9 from (HT1.out.trans (HT6.out.trans (HT8.out.below hb9))).turned.below HBE2.out HF.out HBE2.out.size)
  have x4 : w9.cell? ⟨b5, 4, none⟩ = some (.int .i64 1) := (HX8.out.below hb9 HX8.out.lt).cell (i := 4) rfl
  have ea : (ra.toList == [97]) = true := HRA.out.is rfl
  have eb : (rb.toList == [98]) = true := trb.is rfl
  clear trb hb9
  go_wp2_with fail
  go_ret
  exact ⟨rfl, HBE9.out⟩
end Go.Proofs.YtppdboadjefieaaGreat

namespace Go.Proofs.YtppdboadjefieaaGreat
open Go Go.RowKit
set_option maxRecDepth 100000

theorem vnone_close (v : Value) (w : World) (h : VolNone w v) :
    Calls Tryz.prog 19 #[v] w fun e w' => e = .returned (.tuple #[Rcp.zero.v, .int .i64 1]) ∧ Below w.heap.size w w' := by
  have H0 := Lib.hid h
  clear h
  go_enter Tryz.func19, Tryz.ntmps19
  go_wp2_with (first
    | ((with_reducible refine wpList_alloc_new 64 _ zeroRcp (some 2) ?hgd ?ho ?hd ?_); (case hgd | ho | hd => rfl); (intro b2 w1 l1 B1 e1 z1))
    | fail)
  refine (vnone_there v _ (H0.out.below (e1.mono l1))).mono ?_
  rintro e w' ⟨rfl, rfl⟩
  go_wp2_with (first
    | ((with_reducible refine wpList_build_eq 64 ?parts Rcp.zero.cells ?hg ?ho ?hf ?_); (case hg | ho => rfl); (case hf => exact builtRcp0))
    | ((with_reducible refine wpList_store_new 64 (.tmp 2) (.tmp 15) b2 Rcp.zero.cells Rcp.zero.cells 64 B1 rfl rsizeRcp (Rcp.cells_one _) ?hgd ?ho ?hx ?hy ?_); (case hgd | ho | hx | hy => rfl); (intro w2 B2 o2))
    | fail)
  (try simp only [Exit.inBlock, Exit.then]); refine bodyPost_ret (results_cell1t rfl _ _ B2.range rfl Tryz.underlying64 rfl rsizeRcp) rfl ⟨rfl, o2.below (e1.mono l1) l1⟩
def toldZ : List Value := [.int .i64 0, .int .i64 0, .bool false, .bool false, .int .i64 0, .int .i64 0, .string ⟨#[]⟩, .int .i64 0, .string ⟨#[]⟩, .slice none 0 0, .slice none 0 0, .int .i64 0, .string ⟨#[]⟩]
theorem zeroToldZ (w : World) : (zeroValue 75).run Tryz.prog w = .ok (.agg toldZ.toArray) w := by kernel_rfl
theorem sizeToldZ : (Tryz.prog.info? 75).map (·.size) = some toldZ.length := by kernel_rfl
theorem oneToldZ : ∀ v ∈ toldZ, v.oneCell' = true := List.all_eq_true.1 (show (toldZ.all fun v => v.oneCell') = true from rfl)
theorem vnone_told (v : Value) (a b : Int) (w : World) (h : VolNone w v) :
    Calls Tryz.prog 20 #[v, .agg #[.int .i64 a, .int .i64 b]] w fun e w' => e = .returned (.tuple #[.agg toldZ.toArray, .int .i64 1]) ∧ Below w.heap.size w w' := by
  have H0 := Lib.hid h
  clear h
  go_enter Tryz.func20, Tryz.ntmps20
  go_wp2_with (first
    | ((with_reducible refine wpList_box_new 68 (.tmp 1) [.int .i64 a, .int .i64 b] (some 3) ?hgd ?ho ?hd ?hx ?_); (case hgd | ho | hd | hx => rfl); (intro b3 w1 l1 B1 e1 z1))
    | ((with_reducible refine wpList_alloc_new 75 _ zeroToldZ (some 4) ?hgd ?ho ?hd ?_); (case hgd | ho | hd => rfl); (intro b4 w2 l2 B2 e2 z2))
    | fail)
  have hb2 : Below w.heap.size w w2 := (e1.mono l1).trans (e2.mono (Nat.le_trans l1 (Nat.le_trans (Nat.le_of_lt z1) l2)))
  have hl2 : w.heap.size ≤ b4 := Nat.le_trans l1 (Nat.le_trans (Nat.le_of_lt z1) l2)
  refine (vnone_there v _ (H0.out.below hb2)).mono ?_
  rintro e w' ⟨rfl, rfl⟩
  go_wp2_with (first
    | ((with_reducible refine wpList_build_eq 75 ?parts toldZ ?hg ?ho ?hf ?_); (case hg | ho => rfl); (case hf => exact builtToldZ))
    | ((with_reducible refine wpList_store_new 75 (.tmp 4) (.tmp 19) b4 toldZ toldZ 75 B2 rfl sizeToldZ oneToldZ ?hgd ?ho ?hx ?hy ?_); (case hgd | ho | hx | hy => rfl); (intro w3 B3 o3))
    | fail)
  (try simp only [Exit.inBlock, Exit.then]); refine bodyPost_ret (results_cell1t rfl _ _ B3.range rfl Tryz.underlying75 rfl sizeToldZ) rfl ⟨rfl, o3.below hb2 hl2⟩
def statZ : List Value := [.int .i64 0, .int .i64 0, .int .i64 0, .int .i64 0, .int .i64 0, .int .i64 0]
theorem zeroStatZ (w : World) : (zeroValue 81).run Tryz.prog w = .ok (.agg statZ.toArray) w := by kernel_rfl
theorem sizeStatZ : (Tryz.prog.info? 81).map (·.size) = some statZ.length := by kernel_rfl
theorem oneStatZ : ∀ v ∈ statZ, v.oneCell' = true := by intro v hv; simp [statZ] at hv; subst hv; rfl
theorem vnone_stat (v : Value) (w : World) (h : VolNone w v) :
    Calls Tryz.prog 22 #[v] w fun e w' => e = .returned (.tuple #[.agg statZ.toArray, .int .i64 1]) ∧ Below w.heap.size w w' := by
  have H0 := Lib.hid h
  clear h
  go_enter Tryz.func22, Tryz.ntmps22
  go_wp2_with (first
    | ((with_reducible refine wpList_alloc_new 81 _ zeroStatZ (some 2) ?hgd ?ho ?hd ?_); (case hgd | ho | hd => rfl); (intro b2 w1 l1 B1 e1 z1))
    | fail)
  refine (vnone_there v _ (H0.out.below (e1.mono l1))).mono ?_
  rintro e w' ⟨rfl, rfl⟩
  go_wp2_with (first
    | ((with_reducible refine wpList_build_eq 81 ?parts statZ ?hg ?ho ?hf ?_); (case hg | ho => rfl); (case hf => exact builtStatZ))
    | ((with_reducible refine wpList_store_new 81 (.tmp 2) (.tmp 7) b2 statZ statZ 81 B1 rfl sizeStatZ oneStatZ ?hgd ?ho ?hx ?hy ?_); (case hgd | ho | hx | hy => rfl); (intro w2 B2 o2))
    | fail)
  (try simp only [Exit.inBlock, Exit.then]); refine bodyPost_ret (results_cell1t rfl _ _ B2.range rfl Tryz.underlying81 rfl sizeStatZ) rfl ⟨rfl, o2.below (e1.mono l1) l1⟩
def ansE (e : Int) : List Value := [.int .i64 e, .string ⟨#[]⟩] ++ statZ
theorem zeroAns (w : World) : (zeroValue 89).run Tryz.prog w = .ok (.agg (ansE 0).toArray) w := by kernel_rfl
theorem sizeAnsE {e : Int} : (Tryz.prog.info? 89).map (·.size) = some (ansE e).length := by kernel_rfl
theorem oneAnsE (e : Int) : ∀ v ∈ ansE e, v.oneCell' = true := by intro v hv; simp [ansE, statZ] at hv; rcases hv with rfl | rfl | rfl <;> rfl
theorem vnone_do (v : Value) (cs : List Value) (w : World) (h : VolNone w v) :
    Calls Tryz.prog 26 #[v, .agg cs.toArray] w fun e w' => e = .returned (.agg (ansE 1).toArray) ∧ Below w.heap.size w w' := by
  have H0 := Lib.hid h
  clear h
  go_enter Tryz.func26, Tryz.ntmps26
  go_wp2_with (first
    | ((with_reducible refine wpList_box_new 60 (.tmp 1) cs (some 3) ?hgd ?ho ?hd ?hx ?_); (case hgd | ho | hd | hx => rfl); (intro b3 w1 l1 B1 e1 z1))
    | ((with_reducible refine wpList_alloc_new 89 _ zeroAns (some 4) ?hgd ?ho ?hd ?_); (case hgd | ho | hd => rfl); (intro b4 w2 l2 B2 e2 z2))
    | fail)
  have hb2 : Below w.heap.size w w2 := (e1.mono l1).trans (e2.mono (Nat.le_trans l1 (Nat.le_trans (Nat.le_of_lt z1) l2)))
  have hl2 : w.heap.size ≤ b4 := Nat.le_trans l1 (Nat.le_trans (Nat.le_of_lt z1) l2)
  refine (vnone_there v _ (H0.out.below hb2)).mono ?_
  rintro e w' ⟨rfl, rfl⟩
  go_wp2_with (first
    | ((with_reducible refine wpList_build_eq 89 ?parts (ansE 1) ?hg ?ho ?hf ?_); (case hg | ho => rfl); (case hf => exact builtAnsE 1))
    | ((with_reducible refine wpList_store_new 89 (.tmp 4) (.tmp 12) b4 (ansE 0) (ansE 1) 89 B2 rfl sizeAnsE (oneAnsE 1) ?hgd ?ho ?hx ?hy ?_); (case hgd | ho | hx | hy => rfl); (intro w3 B3 o3))
    | fail)
  (try simp only [Exit.inBlock, Exit.then]); refine bodyPost_ret (results_cell1v rfl _ _ B3.range rfl Tryz.underlying89 rfl sizeAnsE) rfl ⟨rfl, o3.below hb2 hl2⟩
theorem vnone_geo (v : Value) (w : World) (h : VolNone w v) :
    Calls Tryz.prog 28 #[v] w fun e w' => e = .returned GeoD.zero.v ∧ Below w.heap.size w w' := by
  have H0 := Lib.hid h
  clear h
  go_enter Tryz.func28, Tryz.ntmps28
  go_wp2_with (first
    | ((with_reducible refine wpList_alloc_new 23 _ zeroGeo (some 2) ?hgd ?ho ?hd ?_); (case hgd | ho | hd => rfl); (intro b2 w1 l1 B1 e1 z1))
    | fail)
  refine (vnone_there v _ (H0.out.below (e1.mono l1))).mono ?_
  rintro e w' ⟨rfl, rfl⟩
  go_wp2_with (first
    | ((with_reducible refine wpList_build_eq 23 ?parts (GeoD.cells .zero) ?hg ?ho ?hf ?_); (case hg | ho => rfl); (case hf => exact builtGeo0))
    | ((with_reducible refine wpList_store_new 23 (.tmp 2) (.tmp 6) b2 GeoD.zero.cells (GeoD.cells .zero) 23 B1 rfl sizeGeo (geo_one _) ?hgd ?ho ?hx ?hy ?_); (case hgd | ho | hx | hy => rfl); (intro w2 B2 o2))
    | fail)
  (try simp only [Exit.inBlock, Exit.then]); refine bodyPost_ret (results_cell1v rfl _ _ B2.range rfl Tryz.underlying23 rfl sizeGeo) rfl ⟨rfl, o2.below (e1.mono l1) l1⟩
theorem vnone_closed (v : Value) (epoch : Int) (w : World) (h : VolNone w v) :
    Calls Tryz.prog 68 #[v, .int .i64 epoch] w fun e w' => e = .returned (.int .i64 1) ∧ w = w' := by
  go_enter Tryz.func68, Tryz.ntmps68
  go_wp2_with fail
  refine (vnone_there v _ h).mono ?_
  rintro e w' ⟨rfl, rfl⟩
  go_wp2_with fail
  go_ret
  exact ⟨rfl, rfl⟩
theorem vnone_hold (v : Value) (epoch : Int) (name : ByteArray) (w : World) (h : VolNone w v) :
    Calls Tryz.prog 29 #[v, .int .i64 epoch, .string name] w fun e w' => e = .returned (.int .i64 1) ∧ w = w' := by
  go_enter Tryz.func29, Tryz.ntmps29
  go_wp2_with fail
  refine (vnone_there v _ h).mono ?_
  rintro e w' ⟨rfl, rfl⟩
  go_wp2_with fail
  refine (vnone_closed v epoch _ h).mono ?_
  rintro e w' ⟨rfl, rfl⟩
  go_wp2_with fail
  go_ret
  exact ⟨rfl, rfl⟩
theorem vnone_retain (v : Value) (epoch until_ : Int) (w : World) (h : VolNone w v) :
    Calls Tryz.prog 30 #[v, .int .i64 epoch, .int .i64 until_] w fun e w' => e = .returned (.int .i64 1) ∧ w = w' := by
  go_enter Tryz.func30, Tryz.ntmps30
  go_wp2_with fail
  refine (vnone_closed v epoch _ h).mono ?_
  rintro e w' ⟨rfl, rfl⟩
  go_wp2_with fail
  go_ret
  exact ⟨rfl, rfl⟩
theorem vnone_release (v : Value) (name : ByteArray) (w : World) (h : VolNone w v) :
    Calls Tryz.prog 31 #[v, .string name] w fun e w' => e = .returned (.int .i64 1) ∧ w = w' := by
  go_enter Tryz.func31, Tryz.ntmps31
  go_wp2_with fail
  refine (vnone_there v _ h).mono ?_
  rintro e w' ⟨rfl, rfl⟩
  go_wp2_with fail
  go_ret
  exact ⟨rfl, rfl⟩
theorem dnil_there (w : World) :
    Calls Tryz.prog 49 #[.pointer none] w fun e w' => e = .returned (.bool false) ∧ w = w' := by
  go_enter Tryz.func49, Tryz.ntmps49
  go_wp2_with fail
  go_ret
  exact ⟨rfl, rfl⟩
theorem dnil_size (w : World) :
    Calls Tryz.prog 166 #[.pointer none] w fun e w' => e = .returned (.int .i64 0) ∧ w = w' := by
  go_enter Tryz.func166, Tryz.ntmps166
  go_wp2_with fail
  refine (dnil_there _).mono ?_
  rintro e w' ⟨rfl, rfl⟩
  go_wp2_with fail
  go_ret
  exact ⟨rfl, rfl⟩
theorem jnil_open (w : World) :
    Calls Tryz.prog 168 #[.pointer none] w fun e w' => e = .returned (.tuple #[.pointer none, .slice none 0 0, .string ⟨#[]⟩, .int .i64 1]) ∧ w = w' := by
  go_enter Tryz.func168, Tryz.ntmps168
  go_wp2_with fail
  refine (dnil_size _).mono ?_
  rintro e w' ⟨rfl, rfl⟩
  go_wp2_with fail
  (try simp only [Exit.inBlock, Exit.then]); refine bodyPost_ret (v := .tuple #[.pointer none, .slice none 0 0, .string ⟨#[]⟩, .int .i64 1]) ?_ rfl ⟨rfl, rfl⟩
  simp [results, Tryz.f168, go_sem]
theorem nil_mount0 (data : ByteArray) (w : World) (hd : data.size = 16) :
    Calls Tryz.prog 81 #[.pointer none, .string data, .pointer none] w fun e w' => e = .returned (.tuple #[.pointer none, .int .i64 1]) ∧ w = w' := by
  have hds : (data.size : Int) = 16 := by omega
  go_enter Tryz.func81, Tryz.ntmps81
  go_wp2_with fail
  refine (jnil_open _).mono ?_
  rintro e w' ⟨rfl, rfl⟩
  go_wp2_with fail
  go_ret2
  exact ⟨rfl, rfl⟩
theorem nil_mount (data : ByteArray) (w : World) (hd : data.size = 16) :
    Calls Tryz.prog 25 #[.pointer none, .string data] w fun e w' => e = .returned (.tuple #[.pointer none, .int .i64 1]) ∧ w = w' := by
  go_enter Tryz.func25, Tryz.ntmps25
  go_wp2_with fail
  refine (nil_mount0 data _ hd).mono ?_
  rintro e w' ⟨rfl, rfl⟩
  go_wp2_with fail
  go_ret2
  exact ⟨rfl, rfl⟩
set_option maxHeartbeats 2000000 in
theorem jnil_format (g : GeoD) (key : ByteArray) (w : World) (hg : GeoOk g) (hk : key.size = 32) :
    Calls Tryz.prog 80 #[.pointer none, g.v, .string key] w fun e w' => e = .returned (.int .i64 2) ∧ Below w.heap.size w w' := by
  have hk' : (key.size : Int) = 32 := by omega
  have HG := Lib.hid hg
  have hgb : ((0 : Int) == g.blocks) = false := beq_eq_false_iff_ne.2 (by have := hg.b0; omega)
  clear hg hk
  go_enter Tryz.func80, Tryz.ntmps80
  go_wp2_with (first
    | ((with_reducible refine wpList_box_new 23 (.tmp 1) g.cells (some 4) ?hgd ?ho ?hd ?hx ?_); (case hgd | ho | hd | hx => rfl); (intro b4 w1 l1 B1 e1 z1))
    | ((with_reducible refine wpList_alloc_one 36 (.int .i64 0) zeroErr rfl (some 6) ?hgd ?ho ?hd ?_); (case hgd | ho | hd => rfl); (intro b6 w2 l2 B2 e2 z2))
    | fail)
  have HL6 := Lib.hid (Nat.le_trans l1 (Nat.le_of_lt (Nat.lt_of_lt_of_le z1 l2)))
  have HB4 := Lib.hid (B1.below e2 (Nat.lt_of_lt_of_le z1 l2))
  have HB6 := Lib.hid B2
  have HBE2 := Lib.hid ((e1.mono l1).trans (e2.mono HL6.out))
  clear B1 B2 e1 e2 l1 l2 z1 z2
  refine wp_region_held_drew (S := fun wx => wx.rangeAt b4 0 g.cells ∧ wx.cell? ⟨b4, 0, none⟩ = some (.int .i64 g.blocks)) (by kernel_rfl) (⟨HB4.out.drew.range, HB4.out.drew.cell (i := 0) rfl⟩) (fun hHeld => ?_)
  obtain ⟨wd, hwd⟩ : ∃ wd, wd = w2.drew := ⟨_, rfl⟩
  have hbd : Below w2.heap.size w2 wd := by rw [hwd]; exact (Below.refl _ _).drew
  have HB4d := Lib.hid (HB4.out.below hbd HB4.out.lt)
  have HB6d := Lib.hid (HB6.out.below hbd HB6.out.lt)
  have HBEd := Lib.hid (HBE2.out.trans (hbd.mono HBE2.out.size))
  rw [← hwd]
  rw [← hwd] at hHeld
  clear hwd hbd
  refine wpAnyH_take (i := 0) (v := .agg (g.cells).toArray) rfl (by kernel_rfl) (by kernel_rfl) (by kernel_rfl) (fun _ _ _ h => h) (yieldsIf_load_mid (by rfl) 23 (.tmp 4) rfl b4 0 rfl (g.cells) _ (fun w h => h.1) Tryz.underlying23 rfl sizeGeo) (by assumption) ?_
  (try simp only [Act.put, Array.getInternal_eq_getElem, List.getElem_toArray, List.getElem_cons_succ, List.getElem_cons_zero, List.setIfInBounds_toArray, List.set_cons_zero, List.set_cons_succ])
  refine wpAnyH_ready (rs := [1]) (by kernel_rfl) (by simp) ?_
  refine AllReadyH.cons rfl (fun K hK => ?_) AllReadyH.nil
  go_simp
  refine (geomCheck_walk g _ HG.out).mono ?_
  rintro e wc ⟨rfl, hbc⟩
  have HB4c := Lib.hid (HB4d.out.below hbc HB4d.out.lt)
  have HB6c := Lib.hid (HB6d.out.below hbc HB6d.out.lt)
  have HBEc := Lib.hid (HBEd.out.trans (hbc.mono HBEd.out.size))
  clear hbc
  (try go_wp2_with fail)
  refine hK.out _ _ (⟨HB4c.out.range, HB4c.out.cell (i := 0) rfl⟩) (fun hHeld2 => ?_)
  clear hK K hHeld
  have hHeld := hHeld2
  clear hHeld2
  (try simp only [Act.put, Array.getInternal_eq_getElem, List.getElem_toArray, List.getElem_cons_succ, List.getElem_cons_zero, List.setIfInBounds_toArray, List.set_cons_zero, List.set_cons_succ])
  refine wpAnyH_take (i := 2) (v := ?_) rfl (by kernel_rfl) (by kernel_rfl) (by kernel_rfl) (fun _ _ _ h => h) (Or.inl ⟨by rfl, ?_⟩) (by assumption) ?_
  rotate_left
  · intro w hSw; (try dsimp only at hSw); go_simp; first | done | with_reducible rfl
  (try simp only [Act.put, Array.getInternal_eq_getElem, List.getElem_toArray, List.getElem_cons_succ, List.getElem_cons_zero, List.setIfInBounds_toArray, List.set_cons_zero, List.set_cons_succ])
  refine wpAnyH_take (i := 3) (v := ?_) rfl (by kernel_rfl) (by kernel_rfl) (by kernel_rfl) (fun _ _ _ h => h) (Or.inl ⟨by rfl, ?_⟩) (by assumption) ?_
  rotate_left
  · intro w hSw; (try dsimp only at hSw); go_simp; first | done | with_reducible rfl
  (try simp only [Act.put, Array.getInternal_eq_getElem, List.getElem_toArray, List.getElem_cons_succ, List.getElem_cons_zero, List.setIfInBounds_toArray, List.set_cons_zero, List.set_cons_succ])
  refine wpAnyH_take (i := 4) (v := ?_) rfl (by kernel_rfl) (by kernel_rfl) (by kernel_rfl) (fun _ _ _ h => h) (Or.inl ⟨by rfl, ?_⟩) (by assumption) ?_
  rotate_left
  · intro w hSw; (try dsimp only at hSw); go_simp; first | done | with_reducible rfl
  (try simp only [Act.put, Array.getInternal_eq_getElem, List.getElem_toArray, List.getElem_cons_succ, List.getElem_cons_zero, List.setIfInBounds_toArray, List.set_cons_zero, List.set_cons_succ])
  refine wpAnyH_take (i := 5) (v := ?_) rfl (by kernel_rfl) (by kernel_rfl) (by kernel_rfl) (fun _ _ _ h => h) (Or.inl ⟨by rfl, ?_⟩) (by assumption) ?_
  rotate_left
  · intro w hSw; (try dsimp only at hSw); go_simp; first | done | with_reducible rfl
  (try simp only [Act.put, Array.getInternal_eq_getElem, List.getElem_toArray, List.getElem_cons_succ, List.getElem_cons_zero, List.setIfInBounds_toArray, List.set_cons_zero, List.set_cons_succ])
  refine wpAnyH_take (i := 6) (v := ?_) rfl (by kernel_rfl) (by kernel_rfl) (by kernel_rfl) (fun _ _ _ h => h) (Or.inl ⟨by rfl, ?_⟩) (by assumption) ?_
  rotate_left
  · intro w hSw; (try dsimp only at hSw); go_simp; first | done | with_reducible rfl
  (try simp only [Act.put, Array.getInternal_eq_getElem, List.getElem_toArray, List.getElem_cons_succ, List.getElem_cons_zero, List.setIfInBounds_toArray, List.set_cons_zero, List.set_cons_succ])
  refine wpAnyH_take (i := 7) (v := ?_) rfl (by kernel_rfl) (by kernel_rfl) (by kernel_rfl) (fun _ _ _ h => h) (Or.inl ⟨by rfl, ?_⟩) (by assumption) ?_
  rotate_left
  · intro w hSw; (try dsimp only at hSw); go_simp; first | done | with_reducible rfl
  (try simp only [Act.put, Array.getInternal_eq_getElem, List.getElem_toArray, List.getElem_cons_succ, List.getElem_cons_zero, List.setIfInBounds_toArray, List.set_cons_zero, List.set_cons_succ])
  refine wpAnyH_take (i := 8) (v := ?_) rfl (by kernel_rfl) (by kernel_rfl) (by kernel_rfl) (fun _ _ _ h => h) (Or.inl ⟨by rfl, ?_⟩) (by assumption) ?_
  rotate_left
  · intro w hSw; (try dsimp only at hSw); go_simp; first | done | with_reducible rfl
  (try simp only [Act.put, Array.getInternal_eq_getElem, List.getElem_toArray, List.getElem_cons_succ, List.getElem_cons_zero, List.setIfInBounds_toArray, List.set_cons_zero, List.set_cons_succ])
  refine wpAnyH_take (i := 9) (v := ?_) rfl (by kernel_rfl) (by kernel_rfl) (by kernel_rfl) (fun _ _ _ h => h) (Or.inl ⟨by rfl, ?_⟩) (by assumption) ?_
  rotate_left
  · intro w hSw; (try dsimp only at hSw); go_simp; first | done | with_reducible rfl
  (try simp only [Act.put, Array.getInternal_eq_getElem, List.getElem_toArray, List.getElem_cons_succ, List.getElem_cons_zero, List.setIfInBounds_toArray, List.set_cons_zero, List.set_cons_succ])
  refine wpAnyH_take (i := 11) (v := ?_) rfl (by kernel_rfl) (by kernel_rfl) (by kernel_rfl) (fun _ _ _ h => h) (Or.inl ⟨by rfl, ?_⟩) (by assumption) ?_
  rotate_left
  · intro w hSw; (try dsimp only at hSw); go_simp; first | done | with_reducible rfl
  (try simp only [Act.put, Array.getInternal_eq_getElem, List.getElem_toArray, List.getElem_cons_succ, List.getElem_cons_zero, List.setIfInBounds_toArray, List.set_cons_zero, List.set_cons_succ])
  refine wpAnyH_take (i := 12) (v := ?_) rfl (by kernel_rfl) (by kernel_rfl) (by kernel_rfl) (fun _ _ _ h => h) (Or.inl ⟨by rfl, ?_⟩) (by assumption) ?_
  rotate_left
  · intro w hSw; (try dsimp only at hSw); go_simp; first | done | with_reducible rfl
  (try simp only [Act.put, Array.getInternal_eq_getElem, List.getElem_toArray, List.getElem_cons_succ, List.getElem_cons_zero, List.setIfInBounds_toArray, List.set_cons_zero, List.set_cons_succ])
  refine wpAnyH_ready (rs := [10]) (by kernel_rfl) (by simp) ?_
  refine AllReadyH.cons rfl (fun K hK => ?_) AllReadyH.nil
  go_simp
  refine (dnil_size _).mono ?_
  rintro e w' ⟨rfl, rfl⟩
  (try go_wp2_with fail)
  refine hK.out _ _ (⟨HB4c.out.range, HB4c.out.cell (i := 0) rfl⟩) (fun hHeld2 => ?_)
  clear hK K hHeld
  have hHeld := hHeld2
  clear hHeld2
  (try simp only [Act.put, Array.getInternal_eq_getElem, List.getElem_toArray, List.getElem_cons_succ, List.getElem_cons_zero, List.setIfInBounds_toArray, List.set_cons_zero, List.set_cons_succ])
  refine wpAnyH_take (i := 13) (v := ?_) rfl (by kernel_rfl) (by kernel_rfl) (by kernel_rfl) (fun _ _ _ h => h) (Or.inl ⟨by rfl, ?_⟩) (by assumption) ?_
  rotate_left
  · intro w hSw; (try dsimp only at hSw); go_simp; first | done | with_reducible rfl
  (try simp only [Act.put, Array.getInternal_eq_getElem, List.getElem_toArray, List.getElem_cons_succ, List.getElem_cons_zero, List.setIfInBounds_toArray, List.set_cons_zero, List.set_cons_succ])
  refine wpAnyH_take (i := 14) (v := ?_) rfl (by kernel_rfl) (by kernel_rfl) (by kernel_rfl) (fun _ _ _ h => h) (Or.inl ⟨by rfl, ?_⟩) (by assumption) ?_
  rotate_left
  · intro w hSw; (try dsimp only at hSw); go_simp; first | done | with_reducible rfl
  (try simp only [Act.put, Array.getInternal_eq_getElem, List.getElem_toArray, List.getElem_cons_succ, List.getElem_cons_zero, List.setIfInBounds_toArray, List.set_cons_zero, List.set_cons_succ])
  refine wpAnyH_done (by kernel_rfl) ?_ _
  clear hHeld
  have k6 := HB6c.out.cell (i := 0) rfl
  have f6 := HB6c.out.free 0
  go_wp2_with fail
  have r6 : (wc.setCell ⟨b6, 0, none⟩ (.int .i64 2)).cell? ⟨b6, 0, none⟩ = some (.int .i64 2) := (HB6c.out.set 0 (.int .i64 2)).cell (i := 0) rfl
  (try simp only [Exit.inBlock, Exit.then]); refine bodyPost_ret (v := .int .i64 2) ?_ rfl ⟨rfl, HBEc.out.setCell (p := ⟨b6, 0, none⟩) (by show w.heap.size ≤ b6; exact HL6.out) _⟩
  simp [results, Tryz.f80, go_sem, r6]
set_option maxHeartbeats 2000000 in
theorem nil_format (g : GeoD) (root : ByteArray) (w : World) (hg : GeoOk g) (hr : root.size = 32) :
    Calls Tryz.prog 24 #[.pointer none, g.v, .string root] w fun e w' => e = .returned (.tuple #[.pointer none, .int .i64 2]) ∧ Below w.heap.size w w' := by
  have HR := Lib.hid hr
  have HGG := Lib.hid hg
  clear hg hr
  go_enter Tryz.func24, Tryz.ntmps24
  go_wp2_with (first
    | ((with_reducible refine wpList_box_new 23 (.tmp 1) g.cells (some 4) ?hgd ?ho ?hd ?hx ?_); (case hgd | ho | hd | hx => rfl); (intro b4 w1 l1 B1 e1 z1))
    | fail)
  have HBEa := Lib.hid (e1.mono l1)
  have HBa := Lib.hid B1
  clear B1 e1 z1 l1
  refine (dataKey_walk root _).mono ?_
  rintro e wb ⟨he, hbb⟩
  obtain ⟨data, rfl, td⟩ := he.yes HR.out
  have HBb := Lib.hid (HBa.out.below hbb HBa.out.lt)
  have HBEb := Lib.hid (HBEa.out.trans (hbb.mono HBEa.out.size))
  clear hbb td he
  go_wp2_with (first
    | ((with_reducible refine wpList_load_blk 23 (.tmp 4) b4 g.cells 23 _ HBb.out Tryz.underlying23 rfl sizeGeo ?hgd ?ho ?hx ?_); (case hgd | ho | hx => rfl))
    | fail)
  refine (geomCheck_walk g _ HGG.out).mono ?_
  rintro e wc ⟨rfl, hbc⟩
  have HBc := Lib.hid (HBb.out.below hbc HBb.out.lt)
  have HBEc := Lib.hid (HBEb.out.trans (hbc.mono HBEb.out.size))
  have q2 : wc.cell? ⟨b4, 2, none⟩ = some (.int .i64 g.first) := HBc.out.cell (i := 2) rfl
  clear hbc
  go_wp2_with fail
  refine (firstKey_walk root g.first _).mono ?_
  rintro e wd ⟨he, hbd⟩
  obtain ⟨key, rfl, tk⟩ := he.yes ⟨HGG.out.f0, by have := HGG.out.f1; omega, HR.out⟩
  have HKS := Lib.hid (show key.size = 32 from by rw [tk.size, madeL_length])
  have HBd := Lib.hid (HBc.out.below hbd HBc.out.lt)
  have HBEd := Lib.hid (HBEc.out.trans (hbd.mono HBEc.out.size))
  clear hbd tk he q2
  go_wp2_with (first
    | ((with_reducible refine wpList_load_blk 23 (.tmp 4) b4 g.cells 23 _ HBd.out Tryz.underlying23 rfl sizeGeo ?hgd ?ho ?hx ?_); (case hgd | ho | hx => rfl))
    | fail)
  refine (jnil_format g key _ HGG.out HKS.out).mono ?_
  rintro e we ⟨rfl, hbe⟩
  have HBEe := Lib.hid (HBEd.out.trans (hbe.mono HBEd.out.size))
  clear hbe
  go_wp2_with fail
  go_ret2
  exact ⟨rfl, HBEe.out⟩
end Go.Proofs.YtppdboadjefieaaGreat

