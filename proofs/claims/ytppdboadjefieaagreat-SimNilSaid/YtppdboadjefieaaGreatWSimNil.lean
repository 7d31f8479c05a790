/- Chapter 33's example; and that of no volume nothing is known (SimNil). -/
import Derived.Test.YtppdboadjefieaaGreatLaw33
import Derived.Test.YtppdboadjefieaaGreatOpenGeo
namespace Go.Proofs.YtppdboadjefieaaGreat
set_option linter.unusedSimpArgs false
set_option linter.unusedVariables false
open Go Go.RowKit
set_option linter.unusedVariables false
set_option maxRecDepth 100000

theorem shown_img {w : World} {b : Nat} {v1 u1 : Value} {l : List Value} {t : TypeId} (h : Blk w b (v1 :: u1 :: l) t) : w.rangeAt b 0 [v1, u1] := by
  intro j v hv
  match j, hv with
  | 0, hv => simp at hv; subst hv; exact h.cell (i := 0) rfl
  | 1, hv => simp at hv; subst hv; exact h.cell (i := 1) rfl
  | j + 2, hv => simp at hv
set_option maxHeartbeats 2000000 in
theorem same33_walk (p1 p2 q1 q2 : Option Addr) (c1 c2 d1 d2 b1 b2 b3 b4 n : Nat) (xs : List ByteArray) (w : World) (h1 : w.ownsRow b1 9 1 (.slice p1 n c1) n (xs.map .string)) (h2 : w.ownsRow b2 9 1 (.slice q1 n d1) n (xs.map .string)) (h3 : w.ownsRow b3 129 2 (.slice p2 0 c2) 0 []) (h4 : w.ownsRow b4 129 2 (.slice q2 0 d2) 0 []) (hn : n ≤ 4096) :
    Calls Tryz.prog 12 #[.agg #[.slice p1 n c1, .slice p2 0 c2, .int .i64 0, .string ⟨#[]⟩, .string ⟨#[]⟩, .slice none 0 0], .agg #[.slice q1 n d1, .slice q2 0 d2, .int .i64 0, .string ⟨#[]⟩, .string ⟨#[]⟩, .slice none 0 0]] w fun e w' => e = .returned (.bool true) ∧ Below w.heap.size w w' := by
  have H1 := Lib.hid h1
  have H2 := Lib.hid h2
  have H3 := Lib.hid h3
  have H4 := Lib.hid h4
  clear h1 h2 h3 h4
  go_enter Tryz.func12, Tryz.ntmps12
  go_wp2_with (first
    | ((with_reducible refine wpList_box_new 35 (.tmp 0) [.slice p1 n c1, .slice p2 0 c2, .int .i64 0, .string ⟨#[]⟩, .string ⟨#[]⟩, .slice none 0 0] (some 2) ?hgd ?ho ?hd ?hx ?_); (case hgd => rfl); (case ho => rfl); (case hd => rfl); (case hx => rfl); (intro x2 w1 l1 B1 e1 z1))
    | ((with_reducible refine wpList_box_new 35 (.tmp 1) [.slice q1 n d1, .slice q2 0 d2, .int .i64 0, .string ⟨#[]⟩, .string ⟨#[]⟩, .slice none 0 0] (some 3) ?hgd ?ho ?hd ?hx ?_); (case hgd => rfl); (case ho => rfl); (case hd => rfl); (case hx => rfl); (intro x3 w2 l2 B2 e2 z2; have B1' := B1.below e2 (Nat.lt_of_lt_of_le z1 l2)))
    | ((with_reducible refine wpList_load_met 33 (.tmp 5) x2 0 [.slice p1 n c1, .slice p2 0 c2] _ (some 6) (shown_img B1') Tryz.underlying33 rfl sizeImg ?hg ?ho ?hds ?hx ?_); (case ho => rfl); (case hg => rfl); (case hds => rfl); (case hx => rfl))
    | ((with_reducible refine wpList_load_met 33 (.tmp 7) x3 0 [.slice q1 n d1, .slice q2 0 d2] _ (some 8) (shown_img B2) Tryz.underlying33 rfl sizeImg ?hg ?ho ?hds ?hx ?_); (case ho => rfl); (case hg => rfl); (case hds => rfl); (case hx => rfl))
    | fail)
  have hb2 : Below w.heap.size w w2 := (e1.mono l1).trans (e2.mono (Nat.le_trans l1 (Nat.le_of_lt (Nat.lt_of_lt_of_le z1 l2))))
  have HA := Lib.hid B1'
  have HB := Lib.hid B2
  have HBE := Lib.hid hb2
  clear B1 B1' B2 e1 e2 z1 z2 l1 l2 hb2
  refine (image_same _ _ _ _ _ _ _ _ n xs _ (own_below HBE.out H1.out) (own_below HBE.out H2.out) (own_below HBE.out H3.out) (own_below HBE.out H4.out) hn).mono ?_
  rintro e w3 ⟨rfl, hb3⟩
  have HA3 := Lib.hid (HA.out.below hb3 HA.out.lt)
  have HB3 := Lib.hid (HB.out.below hb3 HB.out.lt)
  have HBE3 := Lib.hid (HBE.out.trans (hb3.mono HBE.out.size))
  clear hb3
  have x2' := HA3.out.cell (i := 2) rfl
  have x3' := HA3.out.cell (i := 3) rfl
  have x4' := HA3.out.cell (i := 4) rfl
  have x5' := HA3.out.cell (i := 5) rfl
  have y2 := HB3.out.cell (i := 2) rfl
  have y3 := HB3.out.cell (i := 3) rfl
  have y4 := HB3.out.cell (i := 4) rfl
  have y5 := HB3.out.cell (i := 5) rfl
  go_wp2_with fail
  refine (texts_same (.slice none 0 0) (.slice none 0 0) 0 0 0 [] _ (World.ownsRow_nil _ _ _ _) (World.ownsRow_nil _ _ _ _) (by decide)).mono ?_
  rintro e w4 ⟨rfl, hb4⟩
  have HBE4 := Lib.hid (HBE3.out.trans (hb4.mono HBE3.out.size))
  clear hb4
  go_wp2_with fail
  go_ret
  exact ⟨rfl, HBE4.out⟩
theorem run33 (w : World) : Calls Tryz.prog 11 #[.agg #[.int .i64 8, .int .i64 1, .int .i64 0, .int .i64 0, .string (⟨#[48, 49, 50, 51, 52, 53, 54, 55, 56, 57, 97, 98, 99, 100, 101, 102, 48, 49, 50, 51, 52, 53, 54, 55, 56, 57, 97, 98, 99, 100, 101, 102]⟩ : ByteArray), .string (⟨#[48, 49, 50, 51, 52, 53, 54, 55, 56, 57, 97, 98, 99, 100, 101, 102]⟩ : ByteArray), .slice none 0 0], .slice none 0 0] w fun e w' => (∃ v1 v2 v kb q, e = .returned (.tuple #[.agg #[v1, v2, .int .i64 0, .string (⟨#[48, 49, 50, 51, 52, 53, 54, 55, 56, 57, 97, 98, 99, 100, 101, 102, 48, 49, 50, 51, 52, 53, 54, 55, 56, 57, 97, 98, 99, 100, 101, 102]⟩ : ByteArray), .string (⟨#[48, 49, 50, 51, 52, 53, 54, 55, 56, 57, 97, 98, 99, 100, 101, 102]⟩ : ByteArray), .slice none 0 0], .int .i64 0]) ∧ Txt kb (keyL 0 (⟨#[48, 49, 50, 51, 52, 53, 54, 55, 56, 57, 97, 98, 99, 100, 101, 102, 48, 49, 50, 51, 52, 53, 54, 55, 56, 57, 97, 98, 99, 100, 101, 102]⟩ : ByteArray).data.toList) ∧ w'.ownsRow w.heap.size 9 1 v1 8 ((formDisk 8 v 2 kb q).bs.map .string) ∧ w'.ownsRow w.heap.size 129 2 v2 0 []) ∧ Below w.heap.size w w' :=
  simRun0_walk 8 0 1 (⟨#[48, 49, 50, 51, 52, 53, 54, 55, 56, 57, 97, 98, 99, 100, 101, 102, 48, 49, 50, 51, 52, 53, 54, 55, 56, 57, 97, 98, 99, 100, 101, 102]⟩ : ByteArray) (⟨#[48, 49, 50, 51, 52, 53, 54, 55, 56, 57, 97, 98, 99, 100, 101, 102]⟩ : ByteArray) none 0 w ⟨by decide, by decide, by decide, by decide, by decide, by decide⟩ rfl rfl
theorem kput33 (w : World) : Calls Tryz.prog 39 #[.int .i64 0, .string (⟨#[48, 49, 50, 51, 52, 53, 54, 55, 56, 57, 97, 98, 99, 100, 101, 102, 48, 49, 50, 51, 52, 53, 54, 55, 56, 57, 97, 98, 99, 100, 101, 102]⟩ : ByteArray)] w fun e w' => (∃ r, e = .returned (.tuple #[.string r, .bool true]) ∧ Txt r (keyL 0 (⟨#[48, 49, 50, 51, 52, 53, 54, 55, 56, 57, 97, 98, 99, 100, 101, 102, 48, 49, 50, 51, 52, 53, 54, 55, 56, 57, 97, 98, 99, 100, 101, 102]⟩ : ByteArray).data.toList)) ∧ Below w.heap.size w w' :=
  kput_walk 0 (⟨#[48, 49, 50, 51, 52, 53, 54, 55, 56, 57, 97, 98, 99, 100, 101, 102, 48, 49, 50, 51, 52, 53, 54, 55, 56, 57, 97, 98, 99, 100, 101, 102]⟩ : ByteArray) w (by decide) rfl
set_option maxHeartbeats 2000000 in
theorem alive33 (w : World) :
    Calls Tryz.prog 9 #[] w fun e w' => e = .returned (.bool true) ∧ Below w.heap.size w w' := by
  go_enter Tryz.func9, Tryz.ntmps9
  go_wp2_with fail
  refine (run33 _).mono ?_
  rintro e w1 ⟨⟨v1, v2, v, kb, q, rfl, tk, ho1, ho2⟩, hb1⟩
  obtain ⟨g, cp, z, rfl, _, _, hblk⟩ := own_split ho1 (by decide)
  obtain ⟨p2, c2, rfl⟩ := own_shape ho2
  have HR := Lib.hid (show w1.cell? ⟨g, 2, none⟩ = some (.string kb) from hblk.cell (by
    have : (((formDisk 8 v 2 kb q).bs.map Value.string) ++ z)[2]? = some (.string kb) := by
      rw [List.getElem?_append_left (by rw [List.length_map, form_len]; decide)]
      simp [formDisk]
    exact this))
  have HGL := Lib.hid hblk.lt
  have HTK := Lib.hid tk
  have HBE1 := Lib.hid hb1
  clear ho1 ho2 hblk tk hb1
  go_wp2_with (first
    | ((with_reducible refine wpList_alloc_new 35 _ zeroShown (some 1) ?hgd ?ho ?hd ?_); (case hgd => rfl); (case ho => rfl); (case hd => rfl); (intro b1 w2 l2 B2 e2 z2))
    | ((with_reducible refine wpList_store_new 35 (.tmp 1) (.tmp 10) b1 shown0 [.slice (some ⟨g, 0, none⟩) 8 cp, .slice p2 0 c2, .int .i64 0, .string (⟨#[48, 49, 50, 51, 52, 53, 54, 55, 56, 57, 97, 98, 99, 100, 101, 102, 48, 49, 50, 51, 52, 53, 54, 55, 56, 57, 97, 98, 99, 100, 101, 102]⟩ : ByteArray), .string (⟨#[48, 49, 50, 51, 52, 53, 54, 55, 56, 57, 97, 98, 99, 100, 101, 102]⟩ : ByteArray), .slice none 0 0] 35 B2 rfl sizeShown (shown_one _ _ _ _ _ _ _ _ _) ?hgd ?ho ?hx ?hy ?_); (case hgd => rfl); (case ho => rfl); (case hx => rfl); (case hy => rfl); (intro w3 B3 o3))
    | fail)
  have hb3 : Below w1.heap.size w1 w3 := o3.below (e2.mono l2) l2
  have HB3 := Lib.hid B3
  have HR3 := Lib.hid (show w3.cell? ⟨g, 2, none⟩ = some (.string kb) from by rw [hb3.cell HGL.out]; exact HR.out)
  have HGL3 := Lib.hid (show g < w3.heap.size from Nat.lt_of_lt_of_le HGL.out hb3.size)
  have HBE3 := Lib.hid (HBE1.out.trans (hb3.mono HBE1.out.size))
  clear B2 B3 e2 o3 l2 z2 hb3
  refine (kput33 _).mono ?_
  rintro e w4 ⟨⟨r, rfl, tr⟩, hb4⟩
  obtain rfl : kb = r := HTK.out.eq tr
  have HB4 := Lib.hid (HB3.out.below hb4 HB3.out.lt)
  have c := (show w4.cell? ⟨g, 2, none⟩ = some (.string kb) from by rw [hb4.cell HGL3.out]; exact HR3.out)
  have c0 := HB4.out.cell (i := 0) rfl
  have c3 := HB4.out.cell (i := 3) rfl
  have c5 := HB4.out.cell (i := 5) rfl
  have HBE4 := Lib.hid (HBE3.out.trans (hb4.mono HBE3.out.size))
  clear hb4 tr
  go_wp2_with fail
  go_ret
  exact ⟨rfl, HBE4.out⟩
theorem eqGeoSame (gb gl gf : Int) (w : World) : (Op.equalIn 10000 23 (.agg #[.int .i64 gb, .int .i64 gl, .int .i64 gf]) (.agg #[.int .i64 gb, .int .i64 gl, .int .i64 gf])).run Tryz.prog w = .ok true w := by
  have e : true = ((gb == gb) && ((gl == gl) && ((gf == gf) && true))) := by simp
  conv => rhs; rw [e]
  refine eq_struct (d := 9999) Tryz.underlying23 (by kernel_rfl) ?_
  refine eqf_int (k := .i64) (d := 9998) (by decide) (by kernel_rfl) (by kernel_rfl) Tryz.underlying3 ?_
  refine eqf_int (k := .i64) (d := 9998) (by decide) (by kernel_rfl) (by kernel_rfl) Tryz.underlying3 ?_
  refine eqf_int (k := .i64) (d := 9998) (by decide) (by kernel_rfl) (by kernel_rfl) Tryz.underlying3 ?_
  exact eqf_nil
theorem zeroKnown (w : World) : Sem.run Tryz.prog (zeroValue 26) w = .ok (.agg (knownCells .zero 0 ⟨#[]⟩ ⟨#[]⟩).toArray) w := by kernel_rfl
set_option maxHeartbeats 2000000 in
theorem know0_walk (gb gl gf : Int) (vv : Value) (w : World) (h : VolNone w vv) :
    Calls Tryz.prog 14 #[(⟨gb, gl, gf⟩ : GeoD).v, vv] w fun e w' => e = .returned (.agg (knownCells ⟨gb, gl, gf⟩ 0 ⟨#[]⟩ ⟨#[]⟩).toArray) ∧ Below w.heap.size w w' := by
  have HVw := Lib.hid h
  clear h
  go_enter Tryz.func14, Tryz.ntmps14
  go_wp2_with (first
    | ((with_reducible refine wpList_box_new 23 (.tmp 0) (GeoD.cells ⟨gb, gl, gf⟩) (some 2) ?hgd ?ho ?hd ?hx ?_); (case hgd => rfl); (case ho => rfl); (case hd => rfl); (case hx => rfl); (intro b2 w1 l1 B1 e1 z1))
    | ((with_reducible refine wpList_alloc_new 26 _ zeroKnown (some 4) ?hgd ?ho ?hd ?_); (case hgd => rfl); (case ho => rfl); (case hd => rfl); (intro b4 w2 l2 B2 e2 z2))
    | fail)
  have HL4 := Lib.hid (Nat.le_trans l1 (Nat.le_of_lt (Nat.lt_of_lt_of_le z1 l2)))
  have HN := Lib.hid (show b2 < b4 from Nat.lt_of_lt_of_le z1 l2)
  have HGw2 := Lib.hid (B1.below e2 (Nat.lt_of_lt_of_le z1 l2))
  have HKw2 := Lib.hid B2
  have HBEw2 := Lib.hid ((e1.mono l1).trans (e2.mono HL4.out))
  have HVw2 := Lib.hid (HVw.out.below HBEw2.out)
  clear B1 B2 e1 e2 z1 z2 l1 l2
  refine (vnone_secrets vv _ HVw2.out).mono ?_
  rintro e w' ⟨rfl, rfl⟩
  go_upto_region 2 with fail
  refine wp_region_held_drew (S := fun wx => wx.rangeAt b2 0 [.int .i64 gb, .int .i64 gl, .int .i64 gf]) (by kernel_rfl) (HGw2.out.drew.range) (fun hHeld => ?_)
  obtain ⟨w3, hw3⟩ : ∃ w3, w3 = w2.drew := ⟨_, rfl⟩
  have hb3 : Below w2.heap.size w2 w3 := by rw [hw3]; exact (Below.refl _ _).drew
  have HGw3 := Lib.hid (HGw2.out.below hb3 HGw2.out.lt)
  have HKw3 := Lib.hid (HKw2.out.below hb3 HKw2.out.lt)
  have HVw3 := Lib.hid (HVw2.out.below hb3)
  have HBEw3 := Lib.hid (HBEw2.out.trans (hb3.mono HBEw2.out.size))
  rw [← hw3]
  rw [← hw3] at hHeld
  clear hw3 hb3
  refine wpAnyH_take (i := 0) (v := .agg ([.int .i64 gb, .int .i64 gl, .int .i64 gf]).toArray) rfl (by kernel_rfl) (by kernel_rfl) (by kernel_rfl) (fun _ _ _ h => h) (yieldsIf_load_mid (by rfl) 23 (.tmp 2) rfl b2 0 rfl ([.int .i64 gb, .int .i64 gl, .int .i64 gf]) _ (fun w h => h) Tryz.underlying23 rfl (sizeGeo (g := ⟨gb, gl, gf⟩))) (by assumption) ?_
  (try simp only [Act.put, Array.getInternal_eq_getElem, List.getElem_toArray, List.getElem_cons_succ, List.getElem_cons_zero, List.setIfInBounds_toArray, List.set_cons_zero, List.set_cons_succ])
  refine wpAnyH_take (i := 1) (v := ?_) rfl (by kernel_rfl) (by kernel_rfl) (by kernel_rfl) (fun _ _ _ h => h) (Or.inl ⟨by rfl, ?_⟩) (by assumption) ?_
  rotate_left
  · intro w hSw; (try dsimp only at hSw); go_simp; first | done | with_reducible rfl
  (try simp only [Act.put, Array.getInternal_eq_getElem, List.getElem_toArray, List.getElem_cons_succ, List.getElem_cons_zero, List.setIfInBounds_toArray, List.set_cons_zero, List.set_cons_succ])
  refine wpAnyH_take (i := 2) (v := ?_) rfl (by kernel_rfl) (by kernel_rfl) (by kernel_rfl) (fun _ _ _ h => h) (Or.inl ⟨by rfl, ?_⟩) (by assumption) ?_
  rotate_left
  · intro w hSw; (try dsimp only at hSw); go_simp; first | done | with_reducible rfl
  (try simp only [Act.put, Array.getInternal_eq_getElem, List.getElem_toArray, List.getElem_cons_succ, List.getElem_cons_zero, List.setIfInBounds_toArray, List.set_cons_zero, List.set_cons_succ])
  refine wpAnyH_take (i := 3) (v := ?_) rfl (by kernel_rfl) (by kernel_rfl) (by kernel_rfl) (fun _ _ _ h => h) (Or.inl ⟨by rfl, ?_⟩) (by assumption) ?_
  rotate_left
  · intro w hSw; (try dsimp only at hSw); go_simp; first | done | with_reducible rfl
  (try simp only [Act.put, Array.getInternal_eq_getElem, List.getElem_toArray, List.getElem_cons_succ, List.getElem_cons_zero, List.setIfInBounds_toArray, List.set_cons_zero, List.set_cons_succ])
  refine wpAnyH_take (i := 4) (v := ?_) rfl (by kernel_rfl) (by kernel_rfl) (by kernel_rfl) (fun _ _ _ h => h) (Or.inl ⟨by rfl, ?_⟩) (by assumption) ?_
  rotate_left
  · intro w hSw; (try dsimp only at hSw); go_simp; first | done | with_reducible rfl
  (try simp only [Act.put, Array.getInternal_eq_getElem, List.getElem_toArray, List.getElem_cons_succ, List.getElem_cons_zero, List.setIfInBounds_toArray, List.set_cons_zero, List.set_cons_succ])
  refine wpAnyH_take (i := 6) (v := ?_) rfl (by kernel_rfl) (by kernel_rfl) (by kernel_rfl) (fun _ _ _ h => h) (Or.inl ⟨by rfl, ?_⟩) (by assumption) ?_
  rotate_left
  · intro w hSw; (try dsimp only at hSw); go_simp; first | done | with_reducible rfl
  (try simp only [Act.put, Array.getInternal_eq_getElem, List.getElem_toArray, List.getElem_cons_succ, List.getElem_cons_zero, List.setIfInBounds_toArray, List.set_cons_zero, List.set_cons_succ])
  refine wpAnyH_ready (rs := [5]) (by kernel_rfl) (by simp) ?_
  refine AllReadyH.cons rfl (fun K hK => ?_) AllReadyH.nil
  go_simp
  refine (vnone_sealed vv _ HVw3.out).mono ?_
  rintro e w' ⟨rfl, rfl⟩
  (try go_wp2_with fail)
  refine hK.out _ _ (HGw3.out.range) (fun hHeld2 => ?_)
  clear hK K hHeld
  have hHeld := hHeld2
  clear hHeld2
  (try simp only [Act.put, Array.getInternal_eq_getElem, List.getElem_toArray, List.getElem_cons_succ, List.getElem_cons_zero, List.setIfInBounds_toArray, List.set_cons_zero, List.set_cons_succ])
  refine wpAnyH_ready (rs := [7]) (by kernel_rfl) (by simp) ?_
  refine AllReadyH.cons rfl (fun K hK => ?_) AllReadyH.nil
  go_simp
  refine (simTags0 _ _).mono ?_
  rintro e w' ⟨rfl, rfl⟩
  (try go_wp2_with fail)
  refine hK.out _ _ (HGw3.out.range) (fun hHeld2 => ?_)
  clear hK K hHeld
  have hHeld := hHeld2
  clear hHeld2
  (try simp only [Act.put, Array.getInternal_eq_getElem, List.getElem_toArray, List.getElem_cons_succ, List.getElem_cons_zero, List.setIfInBounds_toArray, List.set_cons_zero, List.set_cons_succ])
  refine wpAnyH_take (i := 8) (v := ?_) rfl (by kernel_rfl) (by kernel_rfl) (by kernel_rfl) (fun _ _ _ h => h) (Or.inl ⟨by rfl, ?_⟩) (by assumption) ?_
  rotate_left
  · intro w hSw; (try dsimp only at hSw); go_simp; first | done | with_reducible rfl
  (try simp only [Act.put, Array.getInternal_eq_getElem, List.getElem_toArray, List.getElem_cons_succ, List.getElem_cons_zero, List.setIfInBounds_toArray, List.set_cons_zero, List.set_cons_succ])
  refine wpAnyH_ready (rs := [9]) (by kernel_rfl) (by simp) ?_
  refine AllReadyH.cons rfl (fun K hK => ?_) AllReadyH.nil
  refine wp_store_all 26 (.tmp 4) (.tmp 22) b4 (knownCells .zero 0 ⟨#[]⟩ ⟨#[]⟩) (knownCells ⟨gb, gl, gf⟩ 0 ⟨#[]⟩ ⟨#[]⟩) 26 HKw3.out rfl sizeKnown (known_one _ _ _ _) rfl rfl rfl ?_
  intro w4 B4 o4
  have hb4 : Below w.heap.size w w4 := o4.below HBEw3.out HL4.out
  have HGw4 := Lib.hid (o4.blk HGw3.out (by have := HN.out; omega))
  refine hK.out _ _ (HGw4.out.range) (fun hHeld2 => ?_)
  clear hK K hHeld
  have hHeld := hHeld2
  clear hHeld2
  (try simp only [Act.put, Array.getInternal_eq_getElem, List.getElem_toArray, List.getElem_cons_succ, List.getElem_cons_zero, List.setIfInBounds_toArray, List.set_cons_zero, List.set_cons_succ])
  refine wpAnyH_done (by kernel_rfl) ?_ _
  clear hHeld
  go_wp2_with fail
  (try simp only [Exit.inBlock, Exit.then]); refine bodyPost_ret (results_cell1v rfl _ _ B4.range rfl Tryz.underlying26 rfl sizeKnown) rfl ⟨rfl, hb4⟩
theorem builtVol0 : Tryz.prog.built 50 [] = some volZero.toArray := by kernel_rfl
set_option maxHeartbeats 4000000 in
theorem simNil_walk (gb gl gf : Int) (there : Bool) (w : World) :
    Calls Tryz.prog 4 #[(⟨gb, gl, gf⟩ : GeoD).v, .bool there] w fun e w' => e = .returned (.bool true) ∧ Below w.heap.size w w' := by
  have hq : ∀ (w : World), (Op.equalIn 10000 23 (.agg #[.int .i64 gb, .int .i64 gl, .int .i64 gf]) (.agg #[.int .i64 gb, .int .i64 gl, .int .i64 gf])).run Tryz.prog w = .ok true w := eqGeoSame gb gl gf
  have HQ := Lib.hid hq
  clear hq
  cases there with
  | false =>
    go_enter Tryz.func4, Tryz.ntmps4
    go_wp2_with (first
      | ((with_reducible refine wpList_box_new 23 (.tmp 0) (GeoD.cells ⟨gb, gl, gf⟩) (some 2) ?hgd ?ho ?hd ?hx ?_); (case hgd => rfl); (case ho => rfl); (case hd => rfl); (case hx => rfl); (intro b2 wa l2 B2 e2 z2))
      | ((with_reducible refine wpList_load_met 23 (.tmp 2) b2 0 (GeoD.cells ⟨gb, gl, gf⟩) _ (some 13) B2.range Tryz.underlying23 rfl sizeGeo ?hg ?ho ?hds ?hx ?_); (case ho => rfl); (case hg => rfl); (case hds => rfl); (case hx => rfl))
      | fail)
    have HGwa := Lib.hid B2
    have HBEwa := Lib.hid (e2.mono l2)
    have HVwa := Lib.hid (show VolNone wa (.pointer none) from .inl rfl)
    clear B2 e2 z2 l2
    refine (know0_walk gb gl gf (.pointer none) _ HVwa.out).mono ?_
    rintro e wb ⟨rfl, hbb⟩
    have HGwb := Lib.hid (HGwa.out.below hbb HGwa.out.lt)
    have HVwb := Lib.hid (HVwa.out.below hbb)
    have HBEwb := Lib.hid (HBEwa.out.trans (hbb.mono HBEwa.out.size))
    clear hbb
    go_wp2_with (first
      | ((with_reducible refine wpList_alloc_new 26 _ zeroKnown (some 6) ?hgd ?ho ?hd ?_); (case hgd => rfl); (case ho => rfl); (case hd => rfl); (intro b6 w6 l6 B6 e6 z6))
      | ((with_reducible refine wpList_store_new 26 (.tmp 6) (.tmp 15) b6 (knownCells .zero 0 ⟨#[]⟩ ⟨#[]⟩) (knownCells ⟨gb, gl, gf⟩ 0 ⟨#[]⟩ ⟨#[]⟩) 26 B6 rfl sizeKnown (known_one _ _ _ _) ?hgd ?ho ?hx ?hy ?_); (case hgd => rfl); (case ho => rfl); (case hx => rfl); (case hy => rfl); (intro wc B6' o6))
      | fail)
    have hbc : Below wb.heap.size wb wc := o6.below (e6.mono l6) l6
    have HGwc := Lib.hid (HGwb.out.below hbc HGwb.out.lt)
    have HVwc := Lib.hid (HVwb.out.below hbc)
    have HKwc := Lib.hid B6'
    have HBEwc := Lib.hid (HBEwb.out.trans (hbc.mono HBEwb.out.size))
    clear B6 B6' e6 z6 l6 o6 hbc
    refine (dnew_walk 8 _ (by decide) (by decide)).mono ?_
    rintro e wd ⟨⟨db, v, rfl, hD, hF⟩, hbd⟩
    have HGwd := Lib.hid (HGwc.out.below hbd HGwc.out.lt)
    have HKwd := Lib.hid (HKwc.out.below hbd HKwc.out.lt)
    have HVwd := Lib.hid (HVwc.out.below hbd)
    have HDwd := Lib.hid hD
    have HBEwd := Lib.hid (HBEwc.out.trans (hbd.mono HBEwc.out.size))
    have HLN := Lib.hid (show (newDisk 8 v).bs.length = 8 from by simp [newDisk])
    clear hbd hD hF
    go_wp2_with fail
    refine (simSeize0 db (.pointer none) (newDisk 8 v) 0 ⟨#[]⟩ ⟨#[]⟩ (fun u => VolNone u (.pointer none)) _ HDwd.out (Nat.zero_le _) (by rw [HLN.out]; decide) HVwd.out (fun u u' h hb => h.below hb) ?hsec ?hseal).mono ?_
    case hsec => intro wx hx; exact (vnone_secrets (.pointer none) wx hx).mono (fun e w' h => ⟨h.1, by rw [← h.2]; exact Below.refl _ _⟩)
    case hseal => intro wx hx; exact (vnone_sealed (.pointer none) wx hx).mono (fun e w' h => ⟨h.1, by rw [← h.2]; exact Below.refl _ _⟩)
    rintro e we ⟨⟨v1, v2, rfl, ho1, ho2⟩, hbe⟩
    rw [HLN.out] at ho1
    obtain ⟨p1, c1, rfl⟩ := own_shape ho1
    obtain ⟨p2, c2, rfl⟩ := own_shape ho2
    have HGwe := Lib.hid (HGwd.out.below hbe HGwd.out.lt)
    have HKwe := Lib.hid (HKwd.out.below hbe HKwd.out.lt)
    have HDwe := Lib.hid (HDwd.out.below hbe)
    have HBEwe := Lib.hid (HBEwd.out.trans (hbe.mono HBEwd.out.size))
    have HO1we := Lib.hid ho1
    have HO2we := Lib.hid ho2
    clear hbe ho1 ho2
    go_wp2_with (first
      | ((with_reducible refine wpList_alloc_new 35 _ zeroShown (some 9) ?hgd ?ho ?hd ?_); (case hgd => rfl); (case ho => rfl); (case hd => rfl); (intro b9 w9 l9 B9 e9 z9))
      | ((with_reducible refine wpList_store_new 35 (.tmp 9) (.tmp 22) b9 shown0 [.slice p1 8 c1, .slice p2 0 c2, .int .i64 0, .string (⟨#[]⟩ : ByteArray), .string (⟨#[]⟩ : ByteArray), .slice none 0 0] 35 B9 rfl sizeShown (shown_one _ _ _ _ _ _ _ _ _) ?hgd ?ho ?hx ?hy ?_); (case hgd => rfl); (case ho => rfl); (case hx => rfl); (case hy => rfl); (intro wg B9' o9))
      | fail)
    have hbg : Below we.heap.size we wg := o9.below (e9.mono l9) l9
    have HGwg := Lib.hid (HGwe.out.below hbg HGwe.out.lt)
    have HKwg := Lib.hid (HKwe.out.below hbg HKwe.out.lt)
    have HSwg := Lib.hid B9'
    have HDwg := Lib.hid (HDwe.out.below hbg)
    have HBEwg := Lib.hid (HBEwe.out.trans (hbg.mono HBEwe.out.size))
    have HO1wg := Lib.hid (own_below hbg HO1we.out)
    have HO2wg := Lib.hid (own_below hbg HO2we.out)
    have HQQ := HQ.out
    clear B9 B9' e9 z9 l9 o9 hbg
    refine wp_region_held_drew (S := fun wx => wx.rangeAt b2 0 [.int .i64 gb, .int .i64 gl, .int .i64 gf] ∧ wx.rangeAt b6 0 [.int .i64 gb, .int .i64 gl, .int .i64 gf] ∧ wx.cell? ⟨b6, 3, none⟩ = some (.int .i64 0) ∧ wx.cell? ⟨b6, 4, none⟩ = some (.string (⟨#[]⟩ : ByteArray)) ∧ wx.cell? ⟨b6, 5, none⟩ = some (.string (⟨#[]⟩ : ByteArray)) ∧ wx.cell? ⟨b6, 6, none⟩ = some (.slice none 0 0) ∧ wx.rangeAt b9 0 [.slice p1 8 c1, .slice p2 0 c2, .int .i64 0, .string (⟨#[]⟩ : ByteArray), .string (⟨#[]⟩ : ByteArray), .slice none 0 0]) (by kernel_rfl) (⟨HGwg.out.drew.range, known_geo HKwg.out.drew, HKwg.out.drew.cell (i := 3) rfl, HKwg.out.drew.cell (i := 4) rfl, HKwg.out.drew.cell (i := 5) rfl, HKwg.out.drew.cell (i := 6) rfl, HSwg.out.drew.range⟩) (fun hHeld => ?_)
    obtain ⟨wh, hwh⟩ : ∃ wh, wh = wg.drew := ⟨_, rfl⟩
    have hbw : Below wg.heap.size wg wh := by rw [hwh]; exact (Below.refl _ _).drew
    have HGwh := Lib.hid (HGwg.out.below hbw HGwg.out.lt)
    have HKwh := Lib.hid (HKwg.out.below hbw HKwg.out.lt)
    have HSwh := Lib.hid (HSwg.out.below hbw HSwg.out.lt)
    have HDwh := Lib.hid (HDwg.out.below hbw)
    have HBEwh := Lib.hid (HBEwg.out.trans (hbw.mono HBEwg.out.size))
    have HO1wh := Lib.hid (own_below hbw HO1wg.out)
    have HO2wh := Lib.hid (own_below hbw HO2wg.out)
    rw [← hwh]
    rw [← hwh] at hHeld
    clear hwh hbw
    refine wpAnyH_take (i := 0) (v := ?_) rfl (by kernel_rfl) (by kernel_rfl) (by kernel_rfl) (fun _ _ _ h => h) (Or.inl ⟨by rfl, ?_⟩) (by assumption) ?_
    rotate_left
    · intro w hSw; (try dsimp only at hSw); go_simp; first | done | with_reducible rfl
    (try simp only [Act.put, Array.getInternal_eq_getElem, List.getElem_toArray, List.getElem_cons_succ, List.getElem_cons_zero, List.setIfInBounds_toArray, List.set_cons_zero, List.set_cons_succ])
    refine wpAnyH_take (i := 1) (v := .agg ([.int .i64 gb, .int .i64 gl, .int .i64 gf]).toArray) rfl (by kernel_rfl) (by kernel_rfl) (by kernel_rfl) (fun _ _ _ h => h) (yieldsIf_load_mid (by rfl) 23 (.tmp 23) rfl b6 0 rfl ([.int .i64 gb, .int .i64 gl, .int .i64 gf]) _ (fun w h => h.2.1) Tryz.underlying23 rfl (sizeGeo (g := ⟨gb, gl, gf⟩))) (by assumption) ?_
    (try simp only [Act.put, Array.getInternal_eq_getElem, List.getElem_toArray, List.getElem_cons_succ, List.getElem_cons_zero, List.setIfInBounds_toArray, List.set_cons_zero, List.set_cons_succ])
    refine wpAnyH_take (i := 2) (v := .agg ([.int .i64 gb, .int .i64 gl, .int .i64 gf]).toArray) rfl (by kernel_rfl) (by kernel_rfl) (by kernel_rfl) (fun _ _ _ h => h) (yieldsIf_load_mid (by rfl) 23 (.tmp 2) rfl b2 0 rfl ([.int .i64 gb, .int .i64 gl, .int .i64 gf]) _ (fun w h => h.1) Tryz.underlying23 rfl (sizeGeo (g := ⟨gb, gl, gf⟩))) (by assumption) ?_
    (try simp only [Act.put, Array.getInternal_eq_getElem, List.getElem_toArray, List.getElem_cons_succ, List.getElem_cons_zero, List.setIfInBounds_toArray, List.set_cons_zero, List.set_cons_succ])
    refine wpAnyH_take (i := 3) (v := ?_) rfl (by kernel_rfl) (by kernel_rfl) (by kernel_rfl) (fun _ _ _ h => h) (Or.inl ⟨by rfl, ?_⟩) (by assumption) ?_
    rotate_left
    · intro w hSw; (try dsimp only at hSw); go_simp; first | done | with_reducible rfl
    (try simp only [Act.put, Array.getInternal_eq_getElem, List.getElem_toArray, List.getElem_cons_succ, List.getElem_cons_zero, List.setIfInBounds_toArray, List.set_cons_zero, List.set_cons_succ])
    refine wpAnyH_take (i := 4) (v := ?_) rfl (by kernel_rfl) (by kernel_rfl) (by kernel_rfl) (fun _ _ _ h => h) (Or.inl ⟨by rfl, ?_⟩) (by assumption) ?_
    rotate_left
    · intro w hSw; (try dsimp only at hSw); go_simp; first | done | with_reducible rfl
    (try simp only [Act.put, Array.getInternal_eq_getElem, List.getElem_toArray, List.getElem_cons_succ, List.getElem_cons_zero, List.setIfInBounds_toArray, List.set_cons_zero, List.set_cons_succ])
    refine wpAnyH_take (i := 5) (v := ?_) rfl (by kernel_rfl) (by kernel_rfl) (by kernel_rfl) (fun _ _ _ h => h) (Or.inl ⟨by rfl, ?_⟩) (by assumption) ?_
    rotate_left
    · intro w hSw; (try dsimp only at hSw); go_simp; first | done | with_reducible rfl
    (try simp only [Act.put, Array.getInternal_eq_getElem, List.getElem_toArray, List.getElem_cons_succ, List.getElem_cons_zero, List.setIfInBounds_toArray, List.set_cons_zero, List.set_cons_succ])
    refine wpAnyH_take (i := 6) (v := ?_) rfl (by kernel_rfl) (by kernel_rfl) (by kernel_rfl) (fun _ _ _ h => h) (Or.inl ⟨by rfl, ?_⟩) (by assumption) ?_
    rotate_left
    · intro w hSw; (try dsimp only at hSw); go_simp; first | done | with_reducible rfl
    (try simp only [Act.put, Array.getInternal_eq_getElem, List.getElem_toArray, List.getElem_cons_succ, List.getElem_cons_zero, List.setIfInBounds_toArray, List.set_cons_zero, List.set_cons_succ])
    refine wpAnyH_take (i := 7) (v := ?_) rfl (by kernel_rfl) (by kernel_rfl) (by kernel_rfl) (fun _ _ _ h => h) (Or.inl ⟨by rfl, ?_⟩) (by assumption) ?_
    rotate_left
    · intro w hSw; (try dsimp only at hSw); go_simp; first | done | with_reducible rfl
    (try simp only [Act.put, Array.getInternal_eq_getElem, List.getElem_toArray, List.getElem_cons_succ, List.getElem_cons_zero, List.setIfInBounds_toArray, List.set_cons_zero, List.set_cons_succ])
    refine wpAnyH_take (i := 8) (v := ?_) rfl (by kernel_rfl) (by kernel_rfl) (by kernel_rfl) (fun _ _ _ h => h) (Or.inl ⟨by rfl, ?_⟩) (by assumption) ?_
    rotate_left
    · intro w hSw; (try dsimp only at hSw); go_simp; first | done | with_reducible rfl
    (try simp only [Act.put, Array.getInternal_eq_getElem, List.getElem_toArray, List.getElem_cons_succ, List.getElem_cons_zero, List.setIfInBounds_toArray, List.set_cons_zero, List.set_cons_succ])
    refine wpAnyH_take (i := 9) (v := ?_) rfl (by kernel_rfl) (by kernel_rfl) (by kernel_rfl) (fun _ _ _ h => h) (Or.inl ⟨by rfl, ?_⟩) (by assumption) ?_
    rotate_left
    · intro w hSw; (try dsimp only at hSw); go_simp; first | done | with_reducible rfl
    (try simp only [Act.put, Array.getInternal_eq_getElem, List.getElem_toArray, List.getElem_cons_succ, List.getElem_cons_zero, List.setIfInBounds_toArray, List.set_cons_zero, List.set_cons_succ])
    refine wpAnyH_take (i := 10) (v := ?_) rfl (by kernel_rfl) (by kernel_rfl) (by kernel_rfl) (fun _ _ _ h => h) (Or.inl ⟨by rfl, ?_⟩) (by assumption) ?_
    rotate_left
    · intro w hSw; (try dsimp only at hSw); go_simp; first | done | with_reducible rfl
    (try simp only [Act.put, Array.getInternal_eq_getElem, List.getElem_toArray, List.getElem_cons_succ, List.getElem_cons_zero, List.setIfInBounds_toArray, List.set_cons_zero, List.set_cons_succ])
    refine wpAnyH_take (i := 11) (v := ?_) rfl (by kernel_rfl) (by kernel_rfl) (by kernel_rfl) (fun _ _ _ h => h) (Or.inl ⟨by rfl, ?_⟩) (by assumption) ?_
    rotate_left
    · intro w hSw; (try dsimp only at hSw); go_simp; first | done | with_reducible rfl
    (try simp only [Act.put, Array.getInternal_eq_getElem, List.getElem_toArray, List.getElem_cons_succ, List.getElem_cons_zero, List.setIfInBounds_toArray, List.set_cons_zero, List.set_cons_succ])
    refine wpAnyH_take (i := 12) (v := ?_) rfl (by kernel_rfl) (by kernel_rfl) (by kernel_rfl) (fun _ _ _ h => h) (Or.inl ⟨by rfl, ?_⟩) (by assumption) ?_
    rotate_left
    · intro w hSw; (try dsimp only at hSw); go_simp; first | done | with_reducible rfl
    (try simp only [Act.put, Array.getInternal_eq_getElem, List.getElem_toArray, List.getElem_cons_succ, List.getElem_cons_zero, List.setIfInBounds_toArray, List.set_cons_zero, List.set_cons_succ])
    refine wpAnyH_take (i := 13) (v := ?_) rfl (by kernel_rfl) (by kernel_rfl) (by kernel_rfl) (fun _ _ _ h => h) (Or.inl ⟨by rfl, ?_⟩) (by assumption) ?_
    rotate_left
    · intro w hSw; (try dsimp only at hSw); go_simp; first | done | with_reducible rfl
    (try simp only [Act.put, Array.getInternal_eq_getElem, List.getElem_toArray, List.getElem_cons_succ, List.getElem_cons_zero, List.setIfInBounds_toArray, List.set_cons_zero, List.set_cons_succ])
    refine wpAnyH_take (i := 14) (v := ?_) rfl (by kernel_rfl) (by kernel_rfl) (by kernel_rfl) (fun _ _ _ h => h) (Or.inl ⟨by rfl, ?_⟩) (by assumption) ?_
    rotate_left
    · intro w hSw; (try dsimp only at hSw); go_simp; first | done | with_reducible rfl
    (try simp only [Act.put, Array.getInternal_eq_getElem, List.getElem_toArray, List.getElem_cons_succ, List.getElem_cons_zero, List.setIfInBounds_toArray, List.set_cons_zero, List.set_cons_succ])
    refine wpAnyH_take (i := 15) (v := ?_) rfl (by kernel_rfl) (by kernel_rfl) (by kernel_rfl) (fun _ _ _ h => h) (Or.inl ⟨by rfl, ?_⟩) (by assumption) ?_
    rotate_left
    · intro w hSw; (try dsimp only at hSw); go_simp; first | done | with_reducible rfl
    (try simp only [Act.put, Array.getInternal_eq_getElem, List.getElem_toArray, List.getElem_cons_succ, List.getElem_cons_zero, List.setIfInBounds_toArray, List.set_cons_zero, List.set_cons_succ])
    rw [show (({ data := #[] } : ByteArray) ++ { data := #[] }).toList.isEmpty = true from by decide +kernel]
    refine wpAnyH_take (i := 16) (v := ?_) rfl (by kernel_rfl) (by kernel_rfl) (by kernel_rfl) (fun _ _ _ h => h) (Or.inl ⟨by rfl, ?_⟩) (by assumption) ?_
    rotate_left
    · intro w hSw; (try dsimp only at hSw); go_simp; first | done | with_reducible rfl
    (try simp only [Act.put, Array.getInternal_eq_getElem, List.getElem_toArray, List.getElem_cons_succ, List.getElem_cons_zero, List.setIfInBounds_toArray, List.set_cons_zero, List.set_cons_succ])
    refine wpAnyH_take (i := 17) (v := ?_) rfl (by kernel_rfl) (by kernel_rfl) (by kernel_rfl) (fun _ _ _ h => h) (Or.inl ⟨by rfl, ?_⟩) (by assumption) ?_
    rotate_left
    · intro w hSw; (try dsimp only at hSw); go_simp; first | done | with_reducible rfl
    (try simp only [Act.put, Array.getInternal_eq_getElem, List.getElem_toArray, List.getElem_cons_succ, List.getElem_cons_zero, List.setIfInBounds_toArray, List.set_cons_zero, List.set_cons_succ])
    refine wpAnyH_take (i := 18) (v := ?_) rfl (by kernel_rfl) (by kernel_rfl) (by kernel_rfl) (fun _ _ _ h => h) (Or.inl ⟨by rfl, ?_⟩) (by assumption) ?_
    rotate_left
    · intro w hSw; (try dsimp only at hSw); go_simp; first | done | with_reducible rfl
    (try simp only [Act.put, Array.getInternal_eq_getElem, List.getElem_toArray, List.getElem_cons_succ, List.getElem_cons_zero, List.setIfInBounds_toArray, List.set_cons_zero, List.set_cons_succ])
    refine wpAnyH_take (i := 19) (v := ?_) rfl (by kernel_rfl) (by kernel_rfl) (by kernel_rfl) (fun _ _ _ h => h) (Or.inl ⟨by rfl, ?_⟩) (by assumption) ?_
    rotate_left
    · intro w hSw; (try dsimp only at hSw); go_simp; first | done | with_reducible rfl
    (try simp only [Act.put, Array.getInternal_eq_getElem, List.getElem_toArray, List.getElem_cons_succ, List.getElem_cons_zero, List.setIfInBounds_toArray, List.set_cons_zero, List.set_cons_succ])
    refine wpAnyH_take (i := 20) (v := ?_) rfl (by kernel_rfl) (by kernel_rfl) (by kernel_rfl) (fun _ _ _ h => h) (Or.inl ⟨by rfl, ?_⟩) (by assumption) ?_
    rotate_left
    · intro w hSw; (try dsimp only at hSw); go_simp; first | done | with_reducible rfl
    (try simp only [Act.put, Array.getInternal_eq_getElem, List.getElem_toArray, List.getElem_cons_succ, List.getElem_cons_zero, List.setIfInBounds_toArray, List.set_cons_zero, List.set_cons_succ])
    refine wpAnyH_take (i := 21) (v := ?_) rfl (by kernel_rfl) (by kernel_rfl) (by kernel_rfl) (fun _ _ _ h => h) (Or.inl ⟨by rfl, ?_⟩) (by assumption) ?_
    rotate_left
    · intro w hSw; (try dsimp only at hSw); go_simp; first | done | with_reducible rfl
    (try simp only [Act.put, Array.getInternal_eq_getElem, List.getElem_toArray, List.getElem_cons_succ, List.getElem_cons_zero, List.setIfInBounds_toArray, List.set_cons_zero, List.set_cons_succ])
    refine wpAnyH_take (i := 22) (v := ?_) rfl (by kernel_rfl) (by kernel_rfl) (by kernel_rfl) (fun _ _ _ h => h) (Or.inl ⟨by rfl, ?_⟩) (by assumption) ?_
    rotate_left
    · intro w hSw; (try dsimp only at hSw); go_simp; first | done | with_reducible rfl
    (try simp only [Act.put, Array.getInternal_eq_getElem, List.getElem_toArray, List.getElem_cons_succ, List.getElem_cons_zero, List.setIfInBounds_toArray, List.set_cons_zero, List.set_cons_succ])
    refine wpAnyH_take (i := 23) (v := ?_) rfl (by kernel_rfl) (by kernel_rfl) (by kernel_rfl) (fun _ _ _ h => h) (Or.inl ⟨by rfl, ?_⟩) (by assumption) ?_
    rotate_left
    · intro w hSw; (try dsimp only at hSw); go_simp; first | done | with_reducible rfl
    (try simp only [Act.put, Array.getInternal_eq_getElem, List.getElem_toArray, List.getElem_cons_succ, List.getElem_cons_zero, List.setIfInBounds_toArray, List.set_cons_zero, List.set_cons_succ])
    refine wpAnyH_take (i := 24) (v := .agg ([.slice p1 8 c1, .slice p2 0 c2, .int .i64 0, .string (⟨#[]⟩ : ByteArray), .string (⟨#[]⟩ : ByteArray), .slice none 0 0]).toArray) rfl (by kernel_rfl) (by kernel_rfl) (by kernel_rfl) (fun _ _ _ h => h) (yieldsIf_load_mid (by rfl) 35 (.tmp 9) rfl b9 0 rfl ([.slice p1 8 c1, .slice p2 0 c2, .int .i64 0, .string (⟨#[]⟩ : ByteArray), .string (⟨#[]⟩ : ByteArray), .slice none 0 0]) _ (fun w h => h.2.2.2.2.2.2) Tryz.underlying35 rfl sizeShown) (by assumption) ?_
    (try simp only [Act.put, Array.getInternal_eq_getElem, List.getElem_toArray, List.getElem_cons_succ, List.getElem_cons_zero, List.setIfInBounds_toArray, List.set_cons_zero, List.set_cons_succ])
    refine wpAnyH_take (i := 25) (v := ?_) rfl (by kernel_rfl) (by kernel_rfl) (by kernel_rfl) (fun _ _ _ h => h) (Or.inl ⟨by rfl, ?_⟩) (by assumption) ?_
    rotate_left
    · intro w hSw; (try dsimp only at hSw); go_simp; first | done | with_reducible rfl
    (try simp only [Act.put, Array.getInternal_eq_getElem, List.getElem_toArray, List.getElem_cons_succ, List.getElem_cons_zero, List.setIfInBounds_toArray, List.set_cons_zero, List.set_cons_succ])
    refine wpAnyH_ready (rs := [26]) (by kernel_rfl) (by simp) ?_
    refine AllReadyH.cons rfl (fun K hK => ?_) AllReadyH.nil
    go_simp
    refine (dseize_walk db _ _ HDwh.out (Nat.zero_le _) (by rw [HLN.out]; decide)).mono ?_
    rintro e wi ⟨⟨u1, u2, rfl, ho1, ho2⟩, hbi⟩
    rw [HLN.out] at ho1
    obtain ⟨q1, d1, rfl⟩ := own_shape ho1
    obtain ⟨q2, d2, rfl⟩ := own_shape ho2
    have HGwi := Lib.hid (HGwh.out.below hbi HGwh.out.lt)
    have HKwi := Lib.hid (HKwh.out.below hbi HKwh.out.lt)
    have HSwi := Lib.hid (HSwh.out.below hbi HSwh.out.lt)
    have HDwi := Lib.hid (HDwh.out.below hbi)
    have HBEwi := Lib.hid (HBEwh.out.trans (hbi.mono HBEwh.out.size))
    have HO1wi := Lib.hid (own_below hbi HO1wh.out)
    have HO2wi := Lib.hid (own_below hbi HO2wh.out)
    have HU1wi := Lib.hid ho1
    have HU2wi := Lib.hid ho2
    clear hbi ho1 ho2
    (try go_wp2_with fail)
    refine hK.out _ _ (⟨HGwi.out.range, known_geo HKwi.out, HKwi.out.cell (i := 3) rfl, HKwi.out.cell (i := 4) rfl, HKwi.out.cell (i := 5) rfl, HKwi.out.cell (i := 6) rfl, HSwi.out.range⟩) (fun hHeld2 => ?_)
    clear hK K hHeld
    have hHeld := hHeld2
    clear hHeld2
    (try simp only [Act.put, Array.getInternal_eq_getElem, List.getElem_toArray, List.getElem_cons_succ, List.getElem_cons_zero, List.setIfInBounds_toArray, List.set_cons_zero, List.set_cons_succ])
    refine wpAnyH_take (i := 27) (v := ?_) rfl (by kernel_rfl) (by kernel_rfl) (by kernel_rfl) (fun _ _ _ h => h) (Or.inl ⟨by rfl, ?_⟩) (by assumption) ?_
    rotate_left
    · intro w hSw; (try dsimp only at hSw); go_simp; first | done | with_reducible rfl
    (try simp only [Act.put, Array.getInternal_eq_getElem, List.getElem_toArray, List.getElem_cons_succ, List.getElem_cons_zero, List.setIfInBounds_toArray, List.set_cons_zero, List.set_cons_succ])
    refine wpAnyH_ready (rs := [28]) (by kernel_rfl) (by simp) ?_
    refine AllReadyH.cons rfl (fun K hK => ?_) AllReadyH.nil
    go_simp
    refine (same33_walk p1 p2 q1 q2 c1 c2 d1 d2 _ _ _ _ 8 _ _ HO1wi.out HU1wi.out HO2wi.out HU2wi.out (by decide)).mono ?_
    rintro e wj ⟨rfl, hbj⟩
    have HGwj := Lib.hid (HGwi.out.below hbj HGwi.out.lt)
    have HKwj := Lib.hid (HKwi.out.below hbj HKwi.out.lt)
    have HSwj := Lib.hid (HSwi.out.below hbj HSwi.out.lt)
    have HDwj := Lib.hid (HDwi.out.below hbj)
    have HBEwj := Lib.hid (HBEwi.out.trans (hbj.mono HBEwi.out.size))
    have HO1wj := Lib.hid (own_below hbj HO1wi.out)
    have HO2wj := Lib.hid (own_below hbj HO2wi.out)
    clear hbj
    (try go_wp2_with fail)
    refine hK.out _ _ (⟨HGwj.out.range, known_geo HKwj.out, HKwj.out.cell (i := 3) rfl, HKwj.out.cell (i := 4) rfl, HKwj.out.cell (i := 5) rfl, HKwj.out.cell (i := 6) rfl, HSwj.out.range⟩) (fun hHeld2 => ?_)
    clear hK K hHeld
    have hHeld := hHeld2
    clear hHeld2
    (try simp only [Act.put, Array.getInternal_eq_getElem, List.getElem_toArray, List.getElem_cons_succ, List.getElem_cons_zero, List.setIfInBounds_toArray, List.set_cons_zero, List.set_cons_succ])
    refine wpAnyH_take (i := 29) (v := ?_) rfl (by kernel_rfl) (by kernel_rfl) (by kernel_rfl) (fun _ _ _ h => h) (Or.inl ⟨by rfl, ?_⟩) (by assumption) ?_
    rotate_left
    · intro w hSw; (try dsimp only at hSw); go_simp; first | done | with_reducible rfl
    (try simp only [Act.put, Array.getInternal_eq_getElem, List.getElem_toArray, List.getElem_cons_succ, List.getElem_cons_zero, List.setIfInBounds_toArray, List.set_cons_zero, List.set_cons_succ])
    refine wpAnyH_take (i := 30) (v := ?_) rfl (by kernel_rfl) (by kernel_rfl) (by kernel_rfl) (fun _ _ _ h => h) (Or.inl ⟨by rfl, ?_⟩) (by assumption) ?_
    rotate_left
    · intro w hSw; (try dsimp only at hSw); go_simp; first | done | with_reducible rfl
    (try simp only [Act.put, Array.getInternal_eq_getElem, List.getElem_toArray, List.getElem_cons_succ, List.getElem_cons_zero, List.setIfInBounds_toArray, List.set_cons_zero, List.set_cons_succ])
    refine wpAnyH_ready (rs := [31]) (by kernel_rfl) (by simp) ?_
    refine AllReadyH.cons rfl (fun K hK => ?_) AllReadyH.nil
    go_simp
    refine (alive33 _).mono ?_
    rintro e wk ⟨rfl, hbk⟩
    have HGwk := Lib.hid (HGwj.out.below hbk HGwj.out.lt)
    have HKwk := Lib.hid (HKwj.out.below hbk HKwj.out.lt)
    have HSwk := Lib.hid (HSwj.out.below hbk HSwj.out.lt)
    have HDwk := Lib.hid (HDwj.out.below hbk)
    have HBEwk := Lib.hid (HBEwj.out.trans (hbk.mono HBEwj.out.size))
    have HO1wk := Lib.hid (own_below hbk HO1wj.out)
    have HO2wk := Lib.hid (own_below hbk HO2wj.out)
    clear hbk
    (try go_wp2_with fail)
    refine hK.out _ _ (⟨HGwk.out.range, known_geo HKwk.out, HKwk.out.cell (i := 3) rfl, HKwk.out.cell (i := 4) rfl, HKwk.out.cell (i := 5) rfl, HKwk.out.cell (i := 6) rfl, HSwk.out.range⟩) (fun hHeld2 => ?_)
    clear hK K hHeld
    have hHeld := hHeld2
    clear hHeld2
    (try simp only [Act.put, Array.getInternal_eq_getElem, List.getElem_toArray, List.getElem_cons_succ, List.getElem_cons_zero, List.setIfInBounds_toArray, List.set_cons_zero, List.set_cons_succ])
    refine wpAnyH_take (i := 32) (v := ?_) rfl (by kernel_rfl) (by kernel_rfl) (by kernel_rfl) (fun _ _ _ h => h) (Or.inl ⟨by rfl, ?_⟩) (by assumption) ?_
    rotate_left
    · intro w hSw; (try dsimp only at hSw); go_simp; first | done | with_reducible rfl
    (try simp only [Act.put, Array.getInternal_eq_getElem, List.getElem_toArray, List.getElem_cons_succ, List.getElem_cons_zero, List.setIfInBounds_toArray, List.set_cons_zero, List.set_cons_succ])
    refine wpAnyH_take (i := 33) (v := ?_) rfl (by kernel_rfl) (by kernel_rfl) (by kernel_rfl) (fun _ _ _ h => h) (Or.inl ⟨by rfl, ?_⟩) (by assumption) ?_
    rotate_left
    · intro w hSw; (try dsimp only at hSw); go_simp; first | done | with_reducible rfl
    (try simp only [Act.put, Array.getInternal_eq_getElem, List.getElem_toArray, List.getElem_cons_succ, List.getElem_cons_zero, List.setIfInBounds_toArray, List.set_cons_zero, List.set_cons_succ])
    refine wpAnyH_done (by kernel_rfl) ?_ _
    clear hHeld
    go_wp2_with fail
    go_ret
    exact ⟨rfl, HBEwk.out⟩
  | true =>
    go_enter Tryz.func4, Tryz.ntmps4
    go_wp2_with (first
      | ((with_reducible refine wpList_box_new 23 (.tmp 0) (GeoD.cells ⟨gb, gl, gf⟩) (some 2) ?hgd ?ho ?hd ?hx ?_); (case hgd => rfl); (case ho => rfl); (case hd => rfl); (case hx => rfl); (intro b2 wa l2 B2 e2 z2))
      | ((with_reducible refine wpList_build_eq 50 ?parts11 volZero ?hg ?ho ?hf ?_); (case hg => rfl); (case ho => rfl); (case hf => exact builtVol0))
      | ((with_reducible refine wpList_box_new 50 (.tmp 11) volZero (some 12) ?hgd ?ho ?hd ?hx ?_); (case hgd => rfl); (case ho => rfl); (case hd => rfl); (case hx => rfl); (intro vb wv lv BV ev zv; have B2' := B2.below ev (Nat.lt_of_lt_of_le z2 lv)))
      | ((with_reducible refine wpList_load_met 23 (.tmp 2) b2 0 (GeoD.cells ⟨gb, gl, gf⟩) _ (some 13) B2'.range Tryz.underlying23 rfl sizeGeo ?hg ?ho ?hds ?hx ?_); (case ho => rfl); (case hg => rfl); (case hds => rfl); (case hx => rfl))
      | fail)
    have HGwa := Lib.hid B2'
    have hwv : Below w.heap.size w wv := (e2.mono l2).trans (ev.mono (Nat.le_trans l2 (Nat.le_of_lt (Nat.lt_of_lt_of_le z2 lv))))
    have HBEwa := Lib.hid hwv
    have HVwa := Lib.hid (show VolNone wv (.pointer (some ⟨vb, 0, none⟩)) from .inr ⟨vb, rfl, BV⟩)
    clear B2 B2' BV e2 z2 ev zv lv l2 hwv
    obtain ⟨wa, hwa⟩ : ∃ wa, wv = wa := ⟨_, rfl⟩
    rw [hwa] at HGwa HBEwa HVwa ⊢
    clear hwa
    refine (know0_walk gb gl gf (.pointer (some ⟨vb, 0, none⟩)) _ HVwa.out).mono ?_
    rintro e wb ⟨rfl, hbb⟩
    have HGwb := Lib.hid (HGwa.out.below hbb HGwa.out.lt)
    have HVwb := Lib.hid (HVwa.out.below hbb)
    have HBEwb := Lib.hid (HBEwa.out.trans (hbb.mono HBEwa.out.size))
    clear hbb
    go_wp2_with (first
      | ((with_reducible refine wpList_alloc_new 26 _ zeroKnown (some 6) ?hgd ?ho ?hd ?_); (case hgd => rfl); (case ho => rfl); (case hd => rfl); (intro b6 w6 l6 B6 e6 z6))
      | ((with_reducible refine wpList_store_new 26 (.tmp 6) (.tmp 15) b6 (knownCells .zero 0 ⟨#[]⟩ ⟨#[]⟩) (knownCells ⟨gb, gl, gf⟩ 0 ⟨#[]⟩ ⟨#[]⟩) 26 B6 rfl sizeKnown (known_one _ _ _ _) ?hgd ?ho ?hx ?hy ?_); (case hgd => rfl); (case ho => rfl); (case hx => rfl); (case hy => rfl); (intro wc B6' o6))
      | fail)
    have hbc : Below wb.heap.size wb wc := o6.below (e6.mono l6) l6
    have HGwc := Lib.hid (HGwb.out.below hbc HGwb.out.lt)
    have HVwc := Lib.hid (HVwb.out.below hbc)
    have HKwc := Lib.hid B6'
    have HBEwc := Lib.hid (HBEwb.out.trans (hbc.mono HBEwb.out.size))
    clear B6 B6' e6 z6 l6 o6 hbc
    refine (dnew_walk 8 _ (by decide) (by decide)).mono ?_
    rintro e wd ⟨⟨db, v, rfl, hD, hF⟩, hbd⟩
    have HGwd := Lib.hid (HGwc.out.below hbd HGwc.out.lt)
    have HKwd := Lib.hid (HKwc.out.below hbd HKwc.out.lt)
    have HVwd := Lib.hid (HVwc.out.below hbd)
    have HDwd := Lib.hid hD
    have HBEwd := Lib.hid (HBEwc.out.trans (hbd.mono HBEwc.out.size))
    have HLN := Lib.hid (show (newDisk 8 v).bs.length = 8 from by simp [newDisk])
    clear hbd hD hF
    go_wp2_with fail
    refine (simSeize0 db (.pointer (some ⟨vb, 0, none⟩)) (newDisk 8 v) 0 ⟨#[]⟩ ⟨#[]⟩ (fun u => VolNone u (.pointer (some ⟨vb, 0, none⟩))) _ HDwd.out (Nat.zero_le _) (by rw [HLN.out]; decide) HVwd.out (fun u u' h hb => h.below hb) ?hsec ?hseal).mono ?_
    case hsec => intro wx hx; exact (vnone_secrets (.pointer (some ⟨vb, 0, none⟩)) wx hx).mono (fun e w' h => ⟨h.1, by rw [← h.2]; exact Below.refl _ _⟩)
    case hseal => intro wx hx; exact (vnone_sealed (.pointer (some ⟨vb, 0, none⟩)) wx hx).mono (fun e w' h => ⟨h.1, by rw [← h.2]; exact Below.refl _ _⟩)
    rintro e we ⟨⟨v1, v2, rfl, ho1, ho2⟩, hbe⟩
    rw [HLN.out] at ho1
    obtain ⟨p1, c1, rfl⟩ := own_shape ho1
    obtain ⟨p2, c2, rfl⟩ := own_shape ho2
    have HGwe := Lib.hid (HGwd.out.below hbe HGwd.out.lt)
    have HKwe := Lib.hid (HKwd.out.below hbe HKwd.out.lt)
    have HDwe := Lib.hid (HDwd.out.below hbe)
    have HBEwe := Lib.hid (HBEwd.out.trans (hbe.mono HBEwd.out.size))
    have HO1we := Lib.hid ho1
    have HO2we := Lib.hid ho2
    clear hbe ho1 ho2
    go_wp2_with (first
      | ((with_reducible refine wpList_alloc_new 35 _ zeroShown (some 9) ?hgd ?ho ?hd ?_); (case hgd => rfl); (case ho => rfl); (case hd => rfl); (intro b9 w9 l9 B9 e9 z9))
      | ((with_reducible refine wpList_store_new 35 (.tmp 9) (.tmp 22) b9 shown0 [.slice p1 8 c1, .slice p2 0 c2, .int .i64 0, .string (⟨#[]⟩ : ByteArray), .string (⟨#[]⟩ : ByteArray), .slice none 0 0] 35 B9 rfl sizeShown (shown_one _ _ _ _ _ _ _ _ _) ?hgd ?ho ?hx ?hy ?_); (case hgd => rfl); (case ho => rfl); (case hx => rfl); (case hy => rfl); (intro wg B9' o9))
      | fail)
    have hbg : Below we.heap.size we wg := o9.below (e9.mono l9) l9
    have HGwg := Lib.hid (HGwe.out.below hbg HGwe.out.lt)
    have HKwg := Lib.hid (HKwe.out.below hbg HKwe.out.lt)
    have HSwg := Lib.hid B9'
    have HDwg := Lib.hid (HDwe.out.below hbg)
    have HBEwg := Lib.hid (HBEwe.out.trans (hbg.mono HBEwe.out.size))
    have HO1wg := Lib.hid (own_below hbg HO1we.out)
    have HO2wg := Lib.hid (own_below hbg HO2we.out)
    have HQQ := HQ.out
    clear B9 B9' e9 z9 l9 o9 hbg
    refine wp_region_held_drew (S := fun wx => wx.rangeAt b2 0 [.int .i64 gb, .int .i64 gl, .int .i64 gf] ∧ wx.rangeAt b6 0 [.int .i64 gb, .int .i64 gl, .int .i64 gf] ∧ wx.cell? ⟨b6, 3, none⟩ = some (.int .i64 0) ∧ wx.cell? ⟨b6, 4, none⟩ = some (.string (⟨#[]⟩ : ByteArray)) ∧ wx.cell? ⟨b6, 5, none⟩ = some (.string (⟨#[]⟩ : ByteArray)) ∧ wx.cell? ⟨b6, 6, none⟩ = some (.slice none 0 0) ∧ wx.rangeAt b9 0 [.slice p1 8 c1, .slice p2 0 c2, .int .i64 0, .string (⟨#[]⟩ : ByteArray), .string (⟨#[]⟩ : ByteArray), .slice none 0 0]) (by kernel_rfl) (⟨HGwg.out.drew.range, known_geo HKwg.out.drew, HKwg.out.drew.cell (i := 3) rfl, HKwg.out.drew.cell (i := 4) rfl, HKwg.out.drew.cell (i := 5) rfl, HKwg.out.drew.cell (i := 6) rfl, HSwg.out.drew.range⟩) (fun hHeld => ?_)
    obtain ⟨wh, hwh⟩ : ∃ wh, wh = wg.drew := ⟨_, rfl⟩
    have hbw : Below wg.heap.size wg wh := by rw [hwh]; exact (Below.refl _ _).drew
    have HGwh := Lib.hid (HGwg.out.below hbw HGwg.out.lt)
    have HKwh := Lib.hid (HKwg.out.below hbw HKwg.out.lt)
    have HSwh := Lib.hid (HSwg.out.below hbw HSwg.out.lt)
    have HDwh := Lib.hid (HDwg.out.below hbw)
    have HBEwh := Lib.hid (HBEwg.out.trans (hbw.mono HBEwg.out.size))
    have HO1wh := Lib.hid (own_below hbw HO1wg.out)
    have HO2wh := Lib.hid (own_below hbw HO2wg.out)
    rw [← hwh]
    rw [← hwh] at hHeld
    clear hwh hbw
    refine wpAnyH_take (i := 0) (v := ?_) rfl (by kernel_rfl) (by kernel_rfl) (by kernel_rfl) (fun _ _ _ h => h) (Or.inl ⟨by rfl, ?_⟩) (by assumption) ?_
    rotate_left
    · intro w hSw; (try dsimp only at hSw); go_simp; first | done | with_reducible rfl
    (try simp only [Act.put, Array.getInternal_eq_getElem, List.getElem_toArray, List.getElem_cons_succ, List.getElem_cons_zero, List.setIfInBounds_toArray, List.set_cons_zero, List.set_cons_succ])
    refine wpAnyH_take (i := 1) (v := .agg ([.int .i64 gb, .int .i64 gl, .int .i64 gf]).toArray) rfl (by kernel_rfl) (by kernel_rfl) (by kernel_rfl) (fun _ _ _ h => h) (yieldsIf_load_mid (by rfl) 23 (.tmp 23) rfl b6 0 rfl ([.int .i64 gb, .int .i64 gl, .int .i64 gf]) _ (fun w h => h.2.1) Tryz.underlying23 rfl (sizeGeo (g := ⟨gb, gl, gf⟩))) (by assumption) ?_
    (try simp only [Act.put, Array.getInternal_eq_getElem, List.getElem_toArray, List.getElem_cons_succ, List.getElem_cons_zero, List.setIfInBounds_toArray, List.set_cons_zero, List.set_cons_succ])
    refine wpAnyH_take (i := 2) (v := .agg ([.int .i64 gb, .int .i64 gl, .int .i64 gf]).toArray) rfl (by kernel_rfl) (by kernel_rfl) (by kernel_rfl) (fun _ _ _ h => h) (yieldsIf_load_mid (by rfl) 23 (.tmp 2) rfl b2 0 rfl ([.int .i64 gb, .int .i64 gl, .int .i64 gf]) _ (fun w h => h.1) Tryz.underlying23 rfl (sizeGeo (g := ⟨gb, gl, gf⟩))) (by assumption) ?_
    (try simp only [Act.put, Array.getInternal_eq_getElem, List.getElem_toArray, List.getElem_cons_succ, List.getElem_cons_zero, List.setIfInBounds_toArray, List.set_cons_zero, List.set_cons_succ])
    refine wpAnyH_take (i := 3) (v := ?_) rfl (by kernel_rfl) (by kernel_rfl) (by kernel_rfl) (fun _ _ _ h => h) (Or.inl ⟨by rfl, ?_⟩) (by assumption) ?_
    rotate_left
    · intro w hSw; (try dsimp only at hSw); go_simp; first | done | with_reducible rfl
    (try simp only [Act.put, Array.getInternal_eq_getElem, List.getElem_toArray, List.getElem_cons_succ, List.getElem_cons_zero, List.setIfInBounds_toArray, List.set_cons_zero, List.set_cons_succ])
    refine wpAnyH_take (i := 4) (v := ?_) rfl (by kernel_rfl) (by kernel_rfl) (by kernel_rfl) (fun _ _ _ h => h) (Or.inl ⟨by rfl, ?_⟩) (by assumption) ?_
    rotate_left
    · intro w hSw; (try dsimp only at hSw); go_simp; first | done | with_reducible rfl
    (try simp only [Act.put, Array.getInternal_eq_getElem, List.getElem_toArray, List.getElem_cons_succ, List.getElem_cons_zero, List.setIfInBounds_toArray, List.set_cons_zero, List.set_cons_succ])
    refine wpAnyH_take (i := 5) (v := ?_) rfl (by kernel_rfl) (by kernel_rfl) (by kernel_rfl) (fun _ _ _ h => h) (Or.inl ⟨by rfl, ?_⟩) (by assumption) ?_
    rotate_left
    · intro w hSw; (try dsimp only at hSw); go_simp; first | done | with_reducible rfl
    (try simp only [Act.put, Array.getInternal_eq_getElem, List.getElem_toArray, List.getElem_cons_succ, List.getElem_cons_zero, List.setIfInBounds_toArray, List.set_cons_zero, List.set_cons_succ])
    refine wpAnyH_take (i := 6) (v := ?_) rfl (by kernel_rfl) (by kernel_rfl) (by kernel_rfl) (fun _ _ _ h => h) (Or.inl ⟨by rfl, ?_⟩) (by assumption) ?_
    rotate_left
    · intro w hSw; (try dsimp only at hSw); go_simp; first | done | with_reducible rfl
    (try simp only [Act.put, Array.getInternal_eq_getElem, List.getElem_toArray, List.getElem_cons_succ, List.getElem_cons_zero, List.setIfInBounds_toArray, List.set_cons_zero, List.set_cons_succ])
    refine wpAnyH_take (i := 7) (v := ?_) rfl (by kernel_rfl) (by kernel_rfl) (by kernel_rfl) (fun _ _ _ h => h) (Or.inl ⟨by rfl, ?_⟩) (by assumption) ?_
    rotate_left
    · intro w hSw; (try dsimp only at hSw); go_simp; first | done | with_reducible rfl
    (try simp only [Act.put, Array.getInternal_eq_getElem, List.getElem_toArray, List.getElem_cons_succ, List.getElem_cons_zero, List.setIfInBounds_toArray, List.set_cons_zero, List.set_cons_succ])
    refine wpAnyH_take (i := 8) (v := ?_) rfl (by kernel_rfl) (by kernel_rfl) (by kernel_rfl) (fun _ _ _ h => h) (Or.inl ⟨by rfl, ?_⟩) (by assumption) ?_
    rotate_left
    · intro w hSw; (try dsimp only at hSw); go_simp; first | done | with_reducible rfl
    (try simp only [Act.put, Array.getInternal_eq_getElem, List.getElem_toArray, List.getElem_cons_succ, List.getElem_cons_zero, List.setIfInBounds_toArray, List.set_cons_zero, List.set_cons_succ])
    refine wpAnyH_take (i := 9) (v := ?_) rfl (by kernel_rfl) (by kernel_rfl) (by kernel_rfl) (fun _ _ _ h => h) (Or.inl ⟨by rfl, ?_⟩) (by assumption) ?_
    rotate_left
    · intro w hSw; (try dsimp only at hSw); go_simp; first | done | with_reducible rfl
    (try simp only [Act.put, Array.getInternal_eq_getElem, List.getElem_toArray, List.getElem_cons_succ, List.getElem_cons_zero, List.setIfInBounds_toArray, List.set_cons_zero, List.set_cons_succ])
    refine wpAnyH_take (i := 10) (v := ?_) rfl (by kernel_rfl) (by kernel_rfl) (by kernel_rfl) (fun _ _ _ h => h) (Or.inl ⟨by rfl, ?_⟩) (by assumption) ?_
    rotate_left
    · intro w hSw; (try dsimp only at hSw); go_simp; first | done | with_reducible rfl
    (try simp only [Act.put, Array.getInternal_eq_getElem, List.getElem_toArray, List.getElem_cons_succ, List.getElem_cons_zero, List.setIfInBounds_toArray, List.set_cons_zero, List.set_cons_succ])
    refine wpAnyH_take (i := 11) (v := ?_) rfl (by kernel_rfl) (by kernel_rfl) (by kernel_rfl) (fun _ _ _ h => h) (Or.inl ⟨by rfl, ?_⟩) (by assumption) ?_
    rotate_left
    · intro w hSw; (try dsimp only at hSw); go_simp; first | done | with_reducible rfl
    (try simp only [Act.put, Array.getInternal_eq_getElem, List.getElem_toArray, List.getElem_cons_succ, List.getElem_cons_zero, List.setIfInBounds_toArray, List.set_cons_zero, List.set_cons_succ])
    refine wpAnyH_take (i := 12) (v := ?_) rfl (by kernel_rfl) (by kernel_rfl) (by kernel_rfl) (fun _ _ _ h => h) (Or.inl ⟨by rfl, ?_⟩) (by assumption) ?_
    rotate_left
    · intro w hSw; (try dsimp only at hSw); go_simp; first | done | with_reducible rfl
    (try simp only [Act.put, Array.getInternal_eq_getElem, List.getElem_toArray, List.getElem_cons_succ, List.getElem_cons_zero, List.setIfInBounds_toArray, List.set_cons_zero, List.set_cons_succ])
    refine wpAnyH_take (i := 13) (v := ?_) rfl (by kernel_rfl) (by kernel_rfl) (by kernel_rfl) (fun _ _ _ h => h) (Or.inl ⟨by rfl, ?_⟩) (by assumption) ?_
    rotate_left
    · intro w hSw; (try dsimp only at hSw); go_simp; first | done | with_reducible rfl
    (try simp only [Act.put, Array.getInternal_eq_getElem, List.getElem_toArray, List.getElem_cons_succ, List.getElem_cons_zero, List.setIfInBounds_toArray, List.set_cons_zero, List.set_cons_succ])
    refine wpAnyH_take (i := 14) (v := ?_) rfl (by kernel_rfl) (by kernel_rfl) (by kernel_rfl) (fun _ _ _ h => h) (Or.inl ⟨by rfl, ?_⟩) (by assumption) ?_
    rotate_left
    · intro w hSw; (try dsimp only at hSw); go_simp; first | done | with_reducible rfl
    (try simp only [Act.put, Array.getInternal_eq_getElem, List.getElem_toArray, List.getElem_cons_succ, List.getElem_cons_zero, List.setIfInBounds_toArray, List.set_cons_zero, List.set_cons_succ])
    refine wpAnyH_take (i := 15) (v := ?_) rfl (by kernel_rfl) (by kernel_rfl) (by kernel_rfl) (fun _ _ _ h => h) (Or.inl ⟨by rfl, ?_⟩) (by assumption) ?_
    rotate_left
    · intro w hSw; (try dsimp only at hSw); go_simp; first | done | with_reducible rfl
    (try simp only [Act.put, Array.getInternal_eq_getElem, List.getElem_toArray, List.getElem_cons_succ, List.getElem_cons_zero, List.setIfInBounds_toArray, List.set_cons_zero, List.set_cons_succ])
    rw [show (({ data := #[] } : ByteArray) ++ { data := #[] }).toList.isEmpty = true from by decide +kernel]
    refine wpAnyH_take (i := 16) (v := ?_) rfl (by kernel_rfl) (by kernel_rfl) (by kernel_rfl) (fun _ _ _ h => h) (Or.inl ⟨by rfl, ?_⟩) (by assumption) ?_
    rotate_left
    · intro w hSw; (try dsimp only at hSw); go_simp; first | done | with_reducible rfl
    (try simp only [Act.put, Array.getInternal_eq_getElem, List.getElem_toArray, List.getElem_cons_succ, List.getElem_cons_zero, List.setIfInBounds_toArray, List.set_cons_zero, List.set_cons_succ])
    refine wpAnyH_take (i := 17) (v := ?_) rfl (by kernel_rfl) (by kernel_rfl) (by kernel_rfl) (fun _ _ _ h => h) (Or.inl ⟨by rfl, ?_⟩) (by assumption) ?_
    rotate_left
    · intro w hSw; (try dsimp only at hSw); go_simp; first | done | with_reducible rfl
    (try simp only [Act.put, Array.getInternal_eq_getElem, List.getElem_toArray, List.getElem_cons_succ, List.getElem_cons_zero, List.setIfInBounds_toArray, List.set_cons_zero, List.set_cons_succ])
    refine wpAnyH_take (i := 18) (v := ?_) rfl (by kernel_rfl) (by kernel_rfl) (by kernel_rfl) (fun _ _ _ h => h) (Or.inl ⟨by rfl, ?_⟩) (by assumption) ?_
    rotate_left
    · intro w hSw; (try dsimp only at hSw); go_simp; first | done | with_reducible rfl
    (try simp only [Act.put, Array.getInternal_eq_getElem, List.getElem_toArray, List.getElem_cons_succ, List.getElem_cons_zero, List.setIfInBounds_toArray, List.set_cons_zero, List.set_cons_succ])
    refine wpAnyH_take (i := 19) (v := ?_) rfl (by kernel_rfl) (by kernel_rfl) (by kernel_rfl) (fun _ _ _ h => h) (Or.inl ⟨by rfl, ?_⟩) (by assumption) ?_
    rotate_left
    · intro w hSw; (try dsimp only at hSw); go_simp; first | done | with_reducible rfl
    (try simp only [Act.put, Array.getInternal_eq_getElem, List.getElem_toArray, List.getElem_cons_succ, List.getElem_cons_zero, List.setIfInBounds_toArray, List.set_cons_zero, List.set_cons_succ])
    refine wpAnyH_take (i := 20) (v := ?_) rfl (by kernel_rfl) (by kernel_rfl) (by kernel_rfl) (fun _ _ _ h => h) (Or.inl ⟨by rfl, ?_⟩) (by assumption) ?_
    rotate_left
    · intro w hSw; (try dsimp only at hSw); go_simp; first | done | with_reducible rfl
    (try simp only [Act.put, Array.getInternal_eq_getElem, List.getElem_toArray, List.getElem_cons_succ, List.getElem_cons_zero, List.setIfInBounds_toArray, List.set_cons_zero, List.set_cons_succ])
    refine wpAnyH_take (i := 21) (v := ?_) rfl (by kernel_rfl) (by kernel_rfl) (by kernel_rfl) (fun _ _ _ h => h) (Or.inl ⟨by rfl, ?_⟩) (by assumption) ?_
    rotate_left
    · intro w hSw; (try dsimp only at hSw); go_simp; first | done | with_reducible rfl
    (try simp only [Act.put, Array.getInternal_eq_getElem, List.getElem_toArray, List.getElem_cons_succ, List.getElem_cons_zero, List.setIfInBounds_toArray, List.set_cons_zero, List.set_cons_succ])
    refine wpAnyH_take (i := 22) (v := ?_) rfl (by kernel_rfl) (by kernel_rfl) (by kernel_rfl) (fun _ _ _ h => h) (Or.inl ⟨by rfl, ?_⟩) (by assumption) ?_
    rotate_left
    · intro w hSw; (try dsimp only at hSw); go_simp; first | done | with_reducible rfl
    (try simp only [Act.put, Array.getInternal_eq_getElem, List.getElem_toArray, List.getElem_cons_succ, List.getElem_cons_zero, List.setIfInBounds_toArray, List.set_cons_zero, List.set_cons_succ])
    refine wpAnyH_take (i := 23) (v := ?_) rfl (by kernel_rfl) (by kernel_rfl) (by kernel_rfl) (fun _ _ _ h => h) (Or.inl ⟨by rfl, ?_⟩) (by assumption) ?_
    rotate_left
    · intro w hSw; (try dsimp only at hSw); go_simp; first | done | with_reducible rfl
    (try simp only [Act.put, Array.getInternal_eq_getElem, List.getElem_toArray, List.getElem_cons_succ, List.getElem_cons_zero, List.setIfInBounds_toArray, List.set_cons_zero, List.set_cons_succ])
    refine wpAnyH_take (i := 24) (v := .agg ([.slice p1 8 c1, .slice p2 0 c2, .int .i64 0, .string (⟨#[]⟩ : ByteArray), .string (⟨#[]⟩ : ByteArray), .slice none 0 0]).toArray) rfl (by kernel_rfl) (by kernel_rfl) (by kernel_rfl) (fun _ _ _ h => h) (yieldsIf_load_mid (by rfl) 35 (.tmp 9) rfl b9 0 rfl ([.slice p1 8 c1, .slice p2 0 c2, .int .i64 0, .string (⟨#[]⟩ : ByteArray), .string (⟨#[]⟩ : ByteArray), .slice none 0 0]) _ (fun w h => h.2.2.2.2.2.2) Tryz.underlying35 rfl sizeShown) (by assumption) ?_
    (try simp only [Act.put, Array.getInternal_eq_getElem, List.getElem_toArray, List.getElem_cons_succ, List.getElem_cons_zero, List.setIfInBounds_toArray, List.set_cons_zero, List.set_cons_succ])
    refine wpAnyH_take (i := 25) (v := ?_) rfl (by kernel_rfl) (by kernel_rfl) (by kernel_rfl) (fun _ _ _ h => h) (Or.inl ⟨by rfl, ?_⟩) (by assumption) ?_
    rotate_left
    · intro w hSw; (try dsimp only at hSw); go_simp; first | done | with_reducible rfl
    (try simp only [Act.put, Array.getInternal_eq_getElem, List.getElem_toArray, List.getElem_cons_succ, List.getElem_cons_zero, List.setIfInBounds_toArray, List.set_cons_zero, List.set_cons_succ])
    refine wpAnyH_ready (rs := [26]) (by kernel_rfl) (by simp) ?_
    refine AllReadyH.cons rfl (fun K hK => ?_) AllReadyH.nil
    go_simp
    refine (dseize_walk db _ _ HDwh.out (Nat.zero_le _) (by rw [HLN.out]; decide)).mono ?_
    rintro e wi ⟨⟨u1, u2, rfl, ho1, ho2⟩, hbi⟩
    rw [HLN.out] at ho1
    obtain ⟨q1, d1, rfl⟩ := own_shape ho1
    obtain ⟨q2, d2, rfl⟩ := own_shape ho2
    have HGwi := Lib.hid (HGwh.out.below hbi HGwh.out.lt)
    have HKwi := Lib.hid (HKwh.out.below hbi HKwh.out.lt)
    have HSwi := Lib.hid (HSwh.out.below hbi HSwh.out.lt)
    have HDwi := Lib.hid (HDwh.out.below hbi)
    have HBEwi := Lib.hid (HBEwh.out.trans (hbi.mono HBEwh.out.size))
    have HO1wi := Lib.hid (own_below hbi HO1wh.out)
    have HO2wi := Lib.hid (own_below hbi HO2wh.out)
    have HU1wi := Lib.hid ho1
    have HU2wi := Lib.hid ho2
    clear hbi ho1 ho2
    (try go_wp2_with fail)
    refine hK.out _ _ (⟨HGwi.out.range, known_geo HKwi.out, HKwi.out.cell (i := 3) rfl, HKwi.out.cell (i := 4) rfl, HKwi.out.cell (i := 5) rfl, HKwi.out.cell (i := 6) rfl, HSwi.out.range⟩) (fun hHeld2 => ?_)
    clear hK K hHeld
    have hHeld := hHeld2
    clear hHeld2
    (try simp only [Act.put, Array.getInternal_eq_getElem, List.getElem_toArray, List.getElem_cons_succ, List.getElem_cons_zero, List.setIfInBounds_toArray, List.set_cons_zero, List.set_cons_succ])
    refine wpAnyH_take (i := 27) (v := ?_) rfl (by kernel_rfl) (by kernel_rfl) (by kernel_rfl) (fun _ _ _ h => h) (Or.inl ⟨by rfl, ?_⟩) (by assumption) ?_
    rotate_left
    · intro w hSw; (try dsimp only at hSw); go_simp; first | done | with_reducible rfl
    (try simp only [Act.put, Array.getInternal_eq_getElem, List.getElem_toArray, List.getElem_cons_succ, List.getElem_cons_zero, List.setIfInBounds_toArray, List.set_cons_zero, List.set_cons_succ])
    refine wpAnyH_ready (rs := [28]) (by kernel_rfl) (by simp) ?_
    refine AllReadyH.cons rfl (fun K hK => ?_) AllReadyH.nil
    go_simp
    refine (same33_walk p1 p2 q1 q2 c1 c2 d1 d2 _ _ _ _ 8 _ _ HO1wi.out HU1wi.out HO2wi.out HU2wi.out (by decide)).mono ?_
    rintro e wj ⟨rfl, hbj⟩
    have HGwj := Lib.hid (HGwi.out.below hbj HGwi.out.lt)
    have HKwj := Lib.hid (HKwi.out.below hbj HKwi.out.lt)
    have HSwj := Lib.hid (HSwi.out.below hbj HSwi.out.lt)
    have HDwj := Lib.hid (HDwi.out.below hbj)
    have HBEwj := Lib.hid (HBEwi.out.trans (hbj.mono HBEwi.out.size))
    have HO1wj := Lib.hid (own_below hbj HO1wi.out)
    have HO2wj := Lib.hid (own_below hbj HO2wi.out)
    clear hbj
    (try go_wp2_with fail)
    refine hK.out _ _ (⟨HGwj.out.range, known_geo HKwj.out, HKwj.out.cell (i := 3) rfl, HKwj.out.cell (i := 4) rfl, HKwj.out.cell (i := 5) rfl, HKwj.out.cell (i := 6) rfl, HSwj.out.range⟩) (fun hHeld2 => ?_)
    clear hK K hHeld
    have hHeld := hHeld2
    clear hHeld2
    (try simp only [Act.put, Array.getInternal_eq_getElem, List.getElem_toArray, List.getElem_cons_succ, List.getElem_cons_zero, List.setIfInBounds_toArray, List.set_cons_zero, List.set_cons_succ])
    refine wpAnyH_take (i := 29) (v := ?_) rfl (by kernel_rfl) (by kernel_rfl) (by kernel_rfl) (fun _ _ _ h => h) (Or.inl ⟨by rfl, ?_⟩) (by assumption) ?_
    rotate_left
    · intro w hSw; (try dsimp only at hSw); go_simp; first | done | with_reducible rfl
    (try simp only [Act.put, Array.getInternal_eq_getElem, List.getElem_toArray, List.getElem_cons_succ, List.getElem_cons_zero, List.setIfInBounds_toArray, List.set_cons_zero, List.set_cons_succ])
    refine wpAnyH_take (i := 30) (v := ?_) rfl (by kernel_rfl) (by kernel_rfl) (by kernel_rfl) (fun _ _ _ h => h) (Or.inl ⟨by rfl, ?_⟩) (by assumption) ?_
    rotate_left
    · intro w hSw; (try dsimp only at hSw); go_simp; first | done | with_reducible rfl
    (try simp only [Act.put, Array.getInternal_eq_getElem, List.getElem_toArray, List.getElem_cons_succ, List.getElem_cons_zero, List.setIfInBounds_toArray, List.set_cons_zero, List.set_cons_succ])
    refine wpAnyH_ready (rs := [31]) (by kernel_rfl) (by simp) ?_
    refine AllReadyH.cons rfl (fun K hK => ?_) AllReadyH.nil
    go_simp
    refine (alive33 _).mono ?_
    rintro e wk ⟨rfl, hbk⟩
    have HGwk := Lib.hid (HGwj.out.below hbk HGwj.out.lt)
    have HKwk := Lib.hid (HKwj.out.below hbk HKwj.out.lt)
    have HSwk := Lib.hid (HSwj.out.below hbk HSwj.out.lt)
    have HDwk := Lib.hid (HDwj.out.below hbk)
    have HBEwk := Lib.hid (HBEwj.out.trans (hbk.mono HBEwj.out.size))
    have HO1wk := Lib.hid (own_below hbk HO1wj.out)
    have HO2wk := Lib.hid (own_below hbk HO2wj.out)
    clear hbk
    (try go_wp2_with fail)
    refine hK.out _ _ (⟨HGwk.out.range, known_geo HKwk.out, HKwk.out.cell (i := 3) rfl, HKwk.out.cell (i := 4) rfl, HKwk.out.cell (i := 5) rfl, HKwk.out.cell (i := 6) rfl, HSwk.out.range⟩) (fun hHeld2 => ?_)
    clear hK K hHeld
    have hHeld := hHeld2
    clear hHeld2
    (try simp only [Act.put, Array.getInternal_eq_getElem, List.getElem_toArray, List.getElem_cons_succ, List.getElem_cons_zero, List.setIfInBounds_toArray, List.set_cons_zero, List.set_cons_succ])
    refine wpAnyH_take (i := 32) (v := ?_) rfl (by kernel_rfl) (by kernel_rfl) (by kernel_rfl) (fun _ _ _ h => h) (Or.inl ⟨by rfl, ?_⟩) (by assumption) ?_
    rotate_left
    · intro w hSw; (try dsimp only at hSw); go_simp; first | done | with_reducible rfl
    (try simp only [Act.put, Array.getInternal_eq_getElem, List.getElem_toArray, List.getElem_cons_succ, List.getElem_cons_zero, List.setIfInBounds_toArray, List.set_cons_zero, List.set_cons_succ])
    refine wpAnyH_take (i := 33) (v := ?_) rfl (by kernel_rfl) (by kernel_rfl) (by kernel_rfl) (fun _ _ _ h => h) (Or.inl ⟨by rfl, ?_⟩) (by assumption) ?_
    rotate_left
    · intro w hSw; (try dsimp only at hSw); go_simp; first | done | with_reducible rfl
    (try simp only [Act.put, Array.getInternal_eq_getElem, List.getElem_toArray, List.getElem_cons_succ, List.getElem_cons_zero, List.setIfInBounds_toArray, List.set_cons_zero, List.set_cons_succ])
    refine wpAnyH_done (by kernel_rfl) ?_ _
    clear hHeld
    go_wp2_with fail
    go_ret
    exact ⟨rfl, HBEwk.out⟩
theorem simNil_law (g : GeoD) (there : Bool) (w : World) (h : GeoFits g) :
    Calls Tryz.prog 4 #[g.v, .bool there] w fun e w' => e = .returned (.bool true) ∧ Below w.heap.size w w' := simNil_walk g.blocks g.lbas g.first there w
end Go.Proofs.YtppdboadjefieaaGreat
