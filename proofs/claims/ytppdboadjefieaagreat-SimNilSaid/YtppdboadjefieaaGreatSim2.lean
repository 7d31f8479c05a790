/- What is shown of what is known, behind no calls (chapter 33): Run. -/
import Derived.Test.YtppdboadjefieaaGreatSim1
namespace Go.Proofs.YtppdboadjefieaaGreat
set_option linter.unusedSimpArgs false
set_option linter.unusedVariables false
open Go Go.RowKit
set_option linter.unusedVariables false
set_option maxRecDepth 100000

theorem zeroRing (w : World) : Sem.run Tryz.prog (zeroValue 114) w = .ok (.agg ([.int .i64 0, .string ⟨#[]⟩, .slice none 0 0] : List Value).toArray) w := by kernel_rfl
theorem ring_one (e : Int) (k : ByteArray) (p : Option Addr) (n c : Nat) : ∀ v ∈ ([.int .i64 e, .string k, .slice p n c] : List Value), v.oneCell' = true := by
  intro v hv; simp at hv; rcases hv with rfl | rfl | rfl <;> rfl
theorem zeroPD (w : World) : Sem.run Tryz.prog (zeroValue 52) w = .ok (.pointer none) w := by kernel_rfl
theorem onePD : (Tryz.prog.info? 52).map (·.size) = some 1 := by kernel_rfl
theorem sizeKnown {g : GeoD} {e : Int} {k d : ByteArray} : (Tryz.prog.info? 26).map (·.size) = some (knownCells g e k d).length := by kernel_rfl
set_option maxHeartbeats 4000000 in
theorem simRun0_walk (n ep : Nat) (lbas : Int) (key data : ByteArray) (p : Option Addr) (c : Nat) (w : World) (hg : GeoOk ⟨(n : Int), lbas, (ep : Int)⟩) (hk : key.size = 32) (hdata : data.size = 16) :
    Calls Tryz.prog 11 #[.agg (knownCells ⟨(n : Int), lbas, (ep : Int)⟩ (ep : Int) key data).toArray, .slice p 0 c] w fun e w' => (∃ v1 v2 v kb q, e = .returned (.tuple #[.agg #[v1, v2, .int .i64 (ep : Int), .string key, .string data, .slice none 0 0], .int .i64 0]) ∧ Txt kb (keyL (ep : Int) key.data.toList) ∧ w'.ownsRow w.heap.size 9 1 v1 n ((formDisk n v (2 + ep % 2) kb q).bs.map .string) ∧ w'.ownsRow w.heap.size 129 2 v2 0 []) ∧ Below w.heap.size w w' := by
  have h8 : 8 ≤ n := by have := hg.b0; simp only at this; omega
  have h9 : n ≤ 1024 := by have := hg.b1; simp only at this; omega
  obtain ⟨g, Hg⟩ : ∃ g, Hid (g = (⟨(n : Int), lbas, (ep : Int)⟩ : GeoD)) := ⟨_, rfl⟩
  have HGB := Lib.hid (show g.blocks = (n : Int) by rw [Hg.out])
  have HGF := Lib.hid (show g.first = (ep : Int) by rw [Hg.out])
  have HG := Lib.hid hg
  have HK := Lib.hid hk
  have HDA := Lib.hid hdata
  have HN := Lib.hid (And.intro h8 h9)
  have hga : GeoOk g := by rw [Hg.out]; exact hg
  have HGA := Lib.hid hga
  rw [← Hg.out]
  have hrig := fun (db : Nat) (v : Value) (wx : World) (hx : DiskAt wx db (newDisk n v)) => rig_walk db n ep lbas (ep : Int) v key key data wx hg hk hk (Int.le_refl _) hdata hx (fun rb was wy hy => (ringNext_walk rb (ep : Int) key was _ wy hy).mono (fun e w' h => ⟨h.1, by rw [← h.2]; exact Below.refl _ _⟩))
  rw [← Hg.out] at hrig
  have HRIG := Lib.hid hrig
  clear hg hk hdata h8 h9 hga hrig
  go_enter Tryz.func11, Tryz.ntmps11
  go_wp2_with (first
    | ((with_reducible refine wpList_box_new 26 (.tmp 0) (knownCells g (ep : Int) key data) (some 2) ?hgd ?ho ?hd ?hx ?_); (case hgd => rfl); (case ho => rfl); (case hd => rfl); (case hx => rfl); (intro b2 w1 l1 B1 e1 z1))
    | ((with_reducible refine wpList_alloc_new 35 _ zeroShown (some 4) ?hgd ?ho ?hd ?_); (case hgd => rfl); (case ho => rfl); (case hd => rfl); (intro b4 w2 l2 B2 e2 z2; have B1' := B1.below e2 (Nat.lt_of_lt_of_le z1 l2)))
    | ((with_reducible refine wpList_load_met 26 (.tmp 2) b2 0 (knownCells g (ep : Int) key data) _ (some 14) B1'.range Tryz.underlying26 rfl sizeKnown ?hg ?ho ?hds ?hx ?_); (case ho => rfl); (case hg => rfl); (case hds => rfl); (case hx => rfl))
    | fail)
  have HL2 := Lib.hid l1
  have HL4 := Lib.hid (Nat.le_trans l1 (Nat.le_of_lt (Nat.lt_of_lt_of_le z1 l2)))
  have HN24 := Lib.hid (show b2 < b4 from Nat.lt_of_lt_of_le z1 l2)
  have HKw2 := Lib.hid B1'
  have HSw2 := Lib.hid B2
  have HBEw2 := Lib.hid ((e1.mono l1).trans (e2.mono HL4.out))
  clear B1 B1' B2 e1 e2 l1 l2 z1 z2
  refine (simMay_walk g (ep : Int) key data _ HGA.out (by omega) (by rw [HGF.out]; omega)).mono ?_
  rintro e w3 ⟨rfl, hb3⟩
  have HKw3 := Lib.hid (HKw2.out.below hb3 HKw2.out.lt)
  have HSw3 := Lib.hid (HSw2.out.below hb3 HSw2.out.lt)
  have HBEw3 := Lib.hid (HBEw2.out.trans (hb3.mono HBEw2.out.size))
  clear hb3
  have q0 : w3.cell? ⟨b2, 0, none⟩ = some (.int .i64 (n : Int)) := by rw [← HGB.out]; exact HKw3.out.cell (i := 0) rfl
  have q3 := HKw3.out.cell (i := 3) rfl
  have q4 := HKw3.out.cell (i := 4) rfl
  have q6 := HKw3.out.cell (i := 6) rfl
  go_wp2_with (first
    | ((with_reducible refine wpList_alloc_new 114 _ zeroRing (some 6) ?hgd ?ho ?hd ?_); (case hgd => rfl); (case ho => rfl); (case hd => rfl); (intro b6 w4 l4 B4 e4 z4))
    | ((with_reducible refine wpList_store_new 114 (.tmp 6) (.tmp 25) b6 [.int .i64 0, .string ⟨#[]⟩, .slice none 0 0] [.int .i64 (ep : Int), .string key, .slice none 0 0] 114 B4 rfl sizeRing (ring_one _ _ _ _ _) ?hgd ?ho ?hx ?hy ?_); (case hgd => rfl); (case ho => rfl); (case hx => rfl); (case hy => rfl); (intro w5 B5 o5; have q0' : w5.cell? ⟨b2, 0, none⟩ = some (.int .i64 (n : Int)) := by rw [(o5.below (e4.mono l4) l4).cell HKw3.out.lt]; exact q0))
    | fail)
  have hb5 : Below w3.heap.size w3 w5 := o5.below (e4.mono l4) l4
  have hw3 := HBEw3.out.size
  have HL6 := Lib.hid (show w.heap.size ≤ b6 from Nat.le_trans hw3 l4)
  have HN46 := Lib.hid (show b4 < b6 from Nat.lt_of_lt_of_le HSw3.out.lt l4)
  have HKw5 := Lib.hid (HKw3.out.below hb5 HKw3.out.lt)
  have HSw5 := Lib.hid (HSw3.out.below hb5 HSw3.out.lt)
  have HRw5 := Lib.hid B5
  have HBEw5 := Lib.hid (HBEw3.out.trans (hb5.mono hw3))
  clear q0 q3 q4 q6 q0' B4 B5 e4 o5 l4 z4 hb5 hw3
  refine (dnew_walk n _ HN.out.1 HN.out.2).mono ?_
  rintro e w6 ⟨⟨db, v, rfl, hD, hF⟩, hb6⟩
  have HKw6 := Lib.hid (HKw5.out.below hb6 HKw5.out.lt)
  have HSw6 := Lib.hid (HSw5.out.below hb6 HSw5.out.lt)
  have HRw6 := Lib.hid (HRw5.out.below hb6 HRw5.out.lt)
  have HDw6 := Lib.hid hD
  have hw5 := HBEw5.out.size
  have HF := Lib.hid (show ∀ x, x ∈ (newDisk n v).foot db → w.heap.size ≤ x ∧ x ≠ b2 ∧ x ≠ b4 ∧ x ≠ b6 from fun x hx => by
    have h1 := hF x hx
    have h2 := HKw5.out.lt
    have h3 := HSw5.out.lt
    have h4 := HRw5.out.lt
    exact ⟨by omega, by omega, by omega, by omega⟩)
  have HBEw6 := Lib.hid (HBEw5.out.trans (hb6.mono hw5))
  clear hb6 hD hF hw5
  have q5 := HKw6.out.cell (i := 5) rfl
  go_wp2_with (first
    | ((with_reducible refine wpList_alloc_one 52 (.pointer none) zeroPD rfl (some 7) ?hgd ?ho ?hd ?_); (case hgd => rfl); (case ho => rfl); (case hd => rfl); (intro b7 w7 l7 B7 e7 z7))
    | ((with_reducible refine wpList_store_at 52 (.tmp 7) (.tmp 31) b7 0 (.pointer (some ⟨db, 0, none⟩)) [.pointer none] 52 B7 (by decide) onePD rfl ?hgd ?ho ?hx ?hy ?_); (case hgd => rfl); (case ho => rfl); (case hx => rfl); (case hy => rfl); (intro w8 B8 o8); (have hb8 : Below w6.heap.size w6 w8 := o8.below (e7.mono l7) l7); (have K8 := HKw6.out.below hb8 HKw6.out.lt); (have R8 := HRw6.out.below hb8 HRw6.out.lt); (have p8 := B8.cell (i := 0) rfl); (have q8 := K8.cell (i := 5) rfl))
    | ((with_reducible refine wpList_load_met 23 (.tmp 39) b2 0 g.cells _ (some 40) (known_geo K8) Tryz.underlying23 rfl sizeGeo ?hg ?ho ?hds ?hx ?_); (case ho => rfl); (case hg => rfl); (case hds => rfl); (case hx => rfl))
    | ((with_reducible refine wpList_load_blk 114 (.tmp 6) b6 [.int .i64 (ep : Int), .string key, .slice none 0 0] 114 _ R8 Tryz.underlying114 rfl sizeRing ?hgd ?ho ?hx ?_); (case hgd => rfl); (case ho => rfl); (case hx => rfl))
    | fail)
  have hw6 := HBEw6.out.size
  have HL7 := Lib.hid (show w.heap.size ≤ b7 from Nat.le_trans hw6 l7)
  have HPw8 := Lib.hid (B8.ext (show _ = [.pointer (some ⟨db, 0, none⟩)] from rfl))
  have HSw8 := Lib.hid (HSw6.out.below hb8 HSw6.out.lt)
  have HDw8 := Lib.hid (HDw6.out.below hb8)
  have HF7 := Lib.hid (show ∀ x, x ∈ (newDisk n v).foot db → x ≠ b7 from fun x hx => by have := HDw6.out.lt x hx; omega)
  have HBEw8 := Lib.hid (HBEw6.out.trans (hb8.mono hw6))
  clear q5 B7 e7 l7 z7 B8 o8 hb8 K8 R8 p8 q8 hw6
  refine (HRIG.out db v _ HDw8.out).mono ?_
  rintro e w9 ⟨rb, vb, jb, sb, xb, bb, cb, c2, m1, m2, m3, tv, v2, kb, q, rfl, tk, tq, hto, hv, hrb, htv⟩
  have HTK := Lib.hid tk
  have HV := Lib.hid hv
  have HSw9 := Lib.hid (hto.turned.blk HSw8.out (fun hm => (HF.out b4 hm).2.2.1 rfl))
  have HPw9 := Lib.hid (hto.turned.blk HPw8.out (fun hm => HF7.out b7 hm rfl))
  have HBEw9 := Lib.hid (hto.turned.below HBEw8.out (fun x hx => (HF.out x hx).1) HBEw8.out.size)
  clear tk tq hto hv hrb htv
  have p9 := HPw9.out.cell (i := 0) rfl
  have hmf : ∀ (fn : Fn) (first cap : Array Value) (w : World), (Instr.makeFunc fn first cap).run Tryz.prog w = .ok (.func fn first cap) w := fun _ _ _ _ => rfl
  go_wp2_with fail
  refine (simPlay0 _ _ _ _ _ _).mono ?_
  rintro e w' ⟨rfl, rfl⟩
  go_wp2_with fail
  have hl := form_len n v2 (2 + ep % 2) kb q
  refine (simSeize0 db _ (formDisk n v2 (2 + ep % 2) kb q) (ep : Int) key data (fun u => VolNew u w8.heap.size vb jb sb db xb bb cb c2 m1 m2 m3 (some ⟨rb, 0, none⟩) key data 1 0 n lbas ep ep (formDisk n v2 (2 + ep % 2) kb q)) _ HV.out.disk (Nat.zero_le _) (by rw [hl]; exact HN.out.2) HV.out (fun u u' h hb => h.below hb) ?hsec ?hseal).mono ?_
  case hsec => intro wx hx; exact (vol_secrets vb jb bb c2 m1 m2 m3 _ _ key data _ _ _ _ wx hx.vol hx.book).mono (fun e w' h => ⟨h.1, by rw [h.2]; exact (Below.refl _ _).drew⟩)
  case hseal => intro wx hx; exact (vol_sealed0 vb jb bb key data _ _ _ wx hx.vol).mono (fun e w' h => ⟨h.1, by rw [← h.2]; exact Below.refl _ _⟩)
  rintro e wz ⟨⟨v1, v2', rfl, ho1, ho2⟩, hbz⟩
  rw [hl] at ho1
  obtain ⟨p1, c1, rfl⟩ := own_shape ho1
  obtain ⟨p2, c2', rfl⟩ := own_shape ho2
  have HO1 := Lib.hid ho1
  have HO2 := Lib.hid ho2
  have HSz := Lib.hid (HSw9.out.below hbz HSw9.out.lt)
  have HBEz := Lib.hid (HBEw9.out.trans (hbz.mono HBEw9.out.size))
  have HLT := Lib.hid HSw9.out.lt
  clear ho1 ho2 hbz hl p9
  go_wp2_with (first
    | ((with_reducible refine wpList_store_new 35 (.tmp 4) (.tmp 65) b4 shown0 [.slice p1 n c1, .slice p2 0 c2', .int .i64 (ep : Int), .string key, .string data, .slice none 0 0] 35 HSz.out rfl sizeShown (shown_one _ _ _ _ _ _ _ _ _) ?hgd ?ho ?hx ?hy ?_); (case hgd => rfl); (case ho => rfl); (case hx => rfl); (case hy => rfl); (intro wy By oy))
    | fail)
  (try simp only [Exit.inBlock, Exit.then]); refine bodyPost_ret (results_cell1t rfl _ _ By.range rfl Tryz.underlying35 rfl sizeShown) rfl ⟨⟨_, _, v2, kb, q, rfl, HTK.out, own_base (own_only HO1.out oy HLT.out) HBEw9.out.size, own_base (own_only HO2.out oy HLT.out) HBEw9.out.size⟩, oy.below HBEz.out HL4.out⟩
end Go.Proofs.YtppdboadjefieaaGreat
