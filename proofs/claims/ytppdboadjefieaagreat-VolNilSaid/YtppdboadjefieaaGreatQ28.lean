/- An epoch is closed (chapter 26): where there is no ring. -/
import Derived.Test.YtppdboadjefieaaGreatQ27
import Derived.Test.YtppdboadjefieaaGreatQ17
set_option linter.unusedSimpArgs false
set_option linter.unusedVariables false
namespace Go.Proofs.YtppdboadjefieaaGreat
open Go Go.RowKit
set_option maxRecDepth 100000

structure CloseOk (v : VolD) : Prop where
  ok : VolOk v
  key : v.key.size = 32
  e0 : 0 ≤ v.epoch
  e1 : v.epoch < 4294967295
  room : v.used < v.last.geo.blocks - 4
  sealed : v.sealed.length ≤ 1048575
  tame : SldTame v.sealed
  last : (lastB v.sealed).size = 32
  c0 : v.last.clock ≤ v.clock
  gen : v.last.gen ≠ 1152921504606846976
  ep : v.last.epoch = v.epoch
  now : v.now ≤ v.clock
  t0 : 0 ≤ v.clock
  t1 : v.clock ≤ 1099511627776
structure SegC (i : VolI) (v : VolD) (cnt : Int) (l : List UInt8) : Prop where
  n0 : 0 ≤ cnt
  n1 : cnt ≤ 4096
  len : l.length = 32
  ex : ∃ T : World → Nat → Prop,
    (∀ wx, VolAt wx i v → Calls Tryz.prog 58 #[.pointer (some ⟨i.vb, 0, none⟩), .int .i64 v.epoch] wx fun e w' => (∃ ps, e = .returned (.tuple #[.pointer (some ⟨ps, 0, none⟩), .int .i64 0]) ∧ T w' ps) ∧ Below wx.heap.size wx w') ∧
    (∀ wx ps, T wx ps → Calls Tryz.prog 61 #[.pointer (some ⟨ps, 0, none⟩)] wx fun e w' => e = .returned (.int .i64 cnt) ∧ wx = w') ∧
    (∀ wx ps, T wx ps → Calls Tryz.prog 62 #[.pointer (some ⟨ps, 0, none⟩)] wx fun e w' => (∃ s, e = .returned (.string s) ∧ Txt s l) ∧ Below wx.heap.size wx w')
def closeR (v : VolD) (cnt : Int) (s : ByteArray) : Rec := ⟨1, v.epoch, v.clock, cnt, 0, 0, s, ⟨#[]⟩⟩
theorem closeR_ok {v : VolD} (h : CloseOk v) {cnt : Int} (n0 : 0 ≤ cnt) (n1 : cnt ≤ 4096) {s : ByteArray} (hs : s.size = 32) : recOk (closeR v cnt s) = true := by
  have h1 := h.e0; have h2 := h.e1; have h3 := h.t0; have h4 := h.t1
  have h5 : v.epoch ≤ 4294967295 := by omega
  have h6 : ByteArray.size (⟨#[]⟩ : ByteArray) = 0 := rfl
  simp [recOk, recKind, closeR, hs, h1, h3, h4, h5, h6, n0, n1]
theorem tame_snoc {l : List Sld} {x : Sld} (h : SldTame l) (hx : x.r.name.size ≤ 1048576 ∧ x.r.root.size ≤ 1048576 ∧ x.tag.size ≤ 1048576 ∧ Fits x.r.epoch) : SldTame (l ++ [x]) := by
  intro j y hy
  by_cases hj : j < l.length
  · rw [List.getElem?_append_left hj] at hy; exact h j y hy
  · rw [List.getElem?_append_right (by omega)] at hy
    have hxy : y = x := by
      cases hk : j - l.length with
      | zero => rw [hk] at hy; simpa using hy.symm
      | succ n => rw [hk] at hy; simp at hy
    subst hxy
    exact hx
theorem Ty.lt {w : World} {b : Nat} {t : TypeId} (h : Ty w b t) : b < w.heap.size := by
  obtain ⟨_, _, h⟩ := h
  exact (Array.getElem?_eq_some_iff.1 h).1
theorem VolAt.foot_lt {w : World} {i : VolI} {v : VolD} (h : VolAt w i v) : ∀ x, x ∈ i.foot v.d → x < w.heap.size := by
  intro x hx
  simp only [VolI.foot, List.mem_append, List.mem_cons, List.not_mem_nil, or_false, Option.mem_toList, Option.mem_def] at hx
  rcases hx with (rfl | rfl | rfl | rfl | rfl | rfl | rfl | rfl | rfl | rfl) | hx | hx | hx
  · exact h.vol.lt
  · exact h.jour.lt
  · exact h.space.lt
  · exact h.index.lt
  · exact h.book.lt
  · exact h.bclock.lt
  · exact h.clock.lt
  · exact h.maps.u.lt
  · exact h.maps.l.lt
  · exact h.maps.g.lt
  · obtain ⟨t, _, ht⟩ := h.disk.tyIn x hx
    exact ht.lt
  · exact (own_ty h.vers hx).lt
  · exact (own_ty h.sealed hx).lt
theorem VolAt.fresh {w0 : World} {i : VolI} {v : VolD} {b : Nat} (h : VolAt w0 i v) (hb : w0.heap.size ≤ b) : b ∉ i.foot v.d := fun hm => by
  have := h.foot_lt b hm
  omega
section
variable {P : Program} {o : Oper} {a : Act} {w : World} {K : Act → World → Prop} {Q : Exit → Act → World → Prop}
theorem wp_slice_newV (t e : TypeId) (len : Nat) (parts : Array (Nat × Operand)) (cells : List Value) (z : Value) (sz byt : Nat)
    (hu : P.underlying t = some (.slice e)) (hi : (P.info? e).map (fun i => (i.zero, i.size, i.bytes)) = some (some z, sz, byt)) (hsm : len * sz ≤ 16777216) (hpos : 0 < len * sz)
    (ho : o.op = .buildSlice t len parts)
    (hf : Instr.fill (fun i => some (i * sz, sz)) ((Array.range (len * sz)).map (z.cells[· % z.cells.size]!)) (parts.map fun (i, x) => (i, a.eval x)).toList = some cells.toArray)
    (h : ∀ g w', w.heap.size ≤ g → Blk w' g cells e → Below g w w' → g < w'.heap.size → K (a.put o.dst (.slice (some ⟨g, 0, none⟩) len len)) w') : o.wp P a w K Q := by
  cases hie : P.info? e with
  | none => simp [hie] at hi
  | some ie =>
    simp only [hie, Option.map_some, Option.some.injEq, Prod.mk.injEq] at hi
    obtain ⟨h1, h2, _⟩ := hi
    subst h2
    exact wp_buildSlice t e len parts ho cells.toArray ie z hu hie h1 (by omega) (by omega) hf (h _ _ (Nat.le_refl _) (Blk.new w cells e) ((Below.refl _ _).alloc (Nat.le_refl _) _) (by simp))
end
theorem rec_of_sld {w : World} {b : Nat} {r : Rec} {t : ByteArray} (h : w.rangeAt b 0 (Sld.cells ⟨r, t⟩)) : w.rangeAt b 0 r.cells := fun j u hu => h j u (by
  show (r.cells ++ [.string t])[j]? = some u
  rw [List.getElem?_append_left (List.getElem?_eq_some_iff.1 hu).1]
  exact hu)
theorem book_ne {w : World} {i : VolI} {v : VolD} (h : VolAt w i v) : i.bb ≠ i.c2 := fun e => absurd (show 213 = 224 from (e ▸ h.book.ty).eq h.bclock.ty) (by decide)
theorem sealed_set {w : World} {i : VolI} {v : VolD} (h : VolAt w i v) (k : Nat) (x : Value) : (w.setCell ⟨i.vb, k, none⟩ x).ownsRow 0 98 9 i.sv v.sealed.length (flatS v.sealed) :=
  own_turned h.sealed ((Turned.refl [i.vb] w).setCell (.inl (by simp)) k x) (fun k hk => (own_ty h.sealed hk).notin (TyIn.one h.vol.ty) (by decide))
set_option maxHeartbeats 8000000 in
theorem closeEpoch_walk (i : VolI) (v : VolD) (cnt : Int) (l : List UInt8) (w : World) (h : VolAt w i v) (hrv : i.rv = .pointer none) (hc : CloseOk v) (hsc : SegC i v cnt l) :
    Calls Tryz.prog 19 #[.pointer (some ⟨i.vb, 0, none⟩)] w fun e w' => ∃ (s t bl nk kb q nb : ByteArray) (sv : Value), Txt s l ∧ Txt t (tagC v.key.data.toList (lastB v.sealed).data.toList (v.sealed.length : Int) (closeR v cnt s)) ∧ Txt bl (holdL (recPut (closeR v cnt s) ++ t.data.toList)) ∧ Txt nk (madeL v.key.data.toList [110, 101, 120, 116] []) ∧ Txt kb (keyL (v.last.epoch + 1) nk.data.toList) ∧ Txt q (supL (closeSup v v.clock)) ∧ nb = (⟨(List.replicate 4096 0).toArray⟩ : ByteArray) ∧
      e = .returned (.tuple #[(makeS (v.sealed ++ [⟨closeR v cnt s, t⟩]) (v.sealed.length : Int)).1.v, .int .i64 (makeS (v.sealed ++ [⟨closeR v cnt s, t⟩]) (v.sealed.length : Int)).2]) ∧
      VolTo w w' i v { i with sv := sv } { v with used := v.used + 1, last := closeSup v v.clock, d := closeDisk v bl kb q nb, key := nk, sealed := v.sealed ++ [⟨closeR v cnt s, t⟩], epoch := v.epoch + 1, now := v.clock } := by
  have H0 := Lib.hid h
  have HC := Lib.hid hc
  have HRV := Lib.hid hrv
  have HE1 := Lib.hid (show v.epoch < 4294967295 from hc.e1)
  have HNN := Lib.hid (show 0 ≤ cnt ∧ cnt ≤ 4096 from ⟨hsc.n0, hsc.n1⟩)
  have HLL := Lib.hid hsc.len
  obtain ⟨T, t1, t2, t3⟩ := hsc.ex
  have HT1 := Lib.hid t1
  have HT2 := Lib.hid t2
  have HT3 := Lib.hid t3
  clear t1 t2 t3 hsc
  have hge : ¬ (4294967295 : Int) ≤ v.epoch := by have := hc.e1; omega
  clear h hc hrv
  go_enter Tryz.func19, Tryz.ntmps19
  go_wp2_with (first
    | ((with_reducible refine wpList_alloc_new 64 _ zeroRcp (some 2) ?hgd ?ho ?hd ?_); (case hgd | ho | hd => rfl); (intro b2 w1 l1 B1 e1 z1))
    | fail)
  have HB1 := Lib.hid B1
  have HL1 := Lib.hid l1
  have HBE1 := Lib.hid (e1.mono l1)
  have H1 := Lib.hid (H0.out.below HBE1.out)
  clear B1 e1 z1 l1
  refine (vthere_walk i v _ H1.out).mono ?_
  rintro e w' ⟨rfl, rfl⟩
  have c5 : w1.cell? ⟨i.vb, 5, none⟩ = some (.pointer (some ⟨i.bb, 0, none⟩)) := H1.out.vol.cell (i := 5) rfl
  go_wp2_with fail
  refine (bookEpoch_walk i.bb i.c2 v.first v.epoch i.m1 i.m2 i.m3 _ H1.out.book).mono ?_
  rintro e w' ⟨rfl, rfl⟩
  have c0 : w1.cell? ⟨i.vb, 0, none⟩ = some (.pointer (some ⟨i.jb, 0, none⟩)) := H1.out.vol.cell (i := 0) rfl
  have j0 : w1.cell? ⟨i.jb, 0, none⟩ = some (.pointer (some ⟨i.sb, 0, none⟩)) := H1.out.jour.cell (i := 0) rfl
  go_wp2_with fail
  refine (spaceOpen_walk i.sb v.last.geo v.used _ H1.out.space HC.out.ok.sup.geo).mono ?_
  rintro e w2 ⟨rfl, hb2⟩
  rw [decide_eq_true HC.out.room]
  have HB2 := Lib.hid (HB1.out.below hb2 HB1.out.lt)
  have HBE2 := Lib.hid (HBE1.out.trans (hb2.mono HBE1.out.size))
  have H2 := Lib.hid (H1.out.below hb2)
  clear hb2 c5 c0 j0
  go_wp2_with fail
  refine (HT1.out _ H2.out).mono ?_
  rintro e w3 ⟨⟨ps, rfl, hs3⟩, hb3⟩
  have HS3 := Lib.hid hs3
  have HB3 := Lib.hid (HB2.out.below hb3 HB2.out.lt)
  have HBE3 := Lib.hid (HBE2.out.trans (hb3.mono HBE2.out.size))
  have H3 := Lib.hid (H2.out.below hb3)
  clear hb3 hs3
  have c6 : w3.cell? ⟨i.vb, 6, none⟩ = some (.pointer (some ⟨i.cb, 0, none⟩)) := H3.out.vol.cell (i := 6) rfl
  go_wp2_with fail
  refine (clockNow_walk i.cb v.clock _ H3.out.clock).mono ?_
  rintro e w' ⟨rfl, rfl⟩
  go_wp2_with fail
  refine (HT2.out _ ps HS3.out).mono ?_
  rintro e w' ⟨rfl, rfl⟩
  go_wp2_with fail
  refine (HT3.out _ ps HS3.out).mono ?_
  rintro e w4 ⟨⟨s, rfl, ts⟩, hb4⟩
  have HTS := Lib.hid ts
  have HB4 := Lib.hid (HB3.out.below hb4 HB3.out.lt)
  have HBE4 := Lib.hid (HBE3.out.trans (hb4.mono HBE3.out.size))
  have H4 := Lib.hid (H3.out.below hb4)
  clear hb4 ts c6
  go_wp2_with (first
    | ((with_reducible refine wpList_build_eq 62 ?parts57 (Rec.cells (closeR v cnt s)) ?hg ?ho ?hf ?_); (case hg | ho => rfl); (case hf => exact builtCloseR _ _ _ _))
    | fail)
  refine (held_walk i v (closeR v cnt s) _ H4.out HRV.out HC.out.key ⟨HC.out.last, by omega, by have := HC.out.sealed; omega, closeR_ok HC.out HNN.out.1 HNN.out.2 (by rw [HTS.out.size, HLL.out])⟩ (by show s.size ≤ 1048576; rw [HTS.out.size, HLL.out]; omega) (by show (0 : Nat) ≤ 1048576; omega) (by have := HC.out.e0; have := HC.out.e1; show Fits v.epoch; unfold Fits; omega) (by have := HC.out.sealed; omega)).mono ?_
  rintro e w5 ⟨⟨t, bl, rfl, tt, tb⟩, hb5⟩
  have HTT := Lib.hid tt
  have HTB := Lib.hid tb
  have HB5 := Lib.hid (HB4.out.below hb5 HB4.out.lt)
  have HBE5 := Lib.hid (HBE4.out.trans (hb5.mono HBE4.out.size))
  have H5 := Lib.hid (H4.out.below hb5)
  have HHL := Lib.hid (show (recPut (closeR v cnt s) ++ t.data.toList).length ≤ 4000 from by
    have h1 := recPut_length (closeR_ok HC.out HNN.out.1 HNN.out.2 (by rw [HTS.out.size, HLL.out] : s.size = 32))
    have h2 : t.data.toList.length = 32 := by rw [show t.data.toList = _ from tt, tagC_length]
    rw [List.length_append]; omega)
  have HTAME := Lib.hid (show SldTame (v.sealed ++ [⟨closeR v cnt s, t⟩]) from tame_snoc HC.out.tame ⟨by show (0 : Nat) ≤ 1048576; omega, by show s.size ≤ 1048576; rw [HTS.out.size, HLL.out]; omega, by show t.size ≤ 1048576; rw [HTT.out.size, tagC_length]; omega, by have := HC.out.e0; have := HC.out.e1; show Fits v.epoch; unfold Fits; omega⟩)
  clear hb5 tt tb
  have hxr : (⟨closeR v cnt s, t⟩ : Sld) = ⟨closeR v cnt s, t⟩ := rfl
  clear hxr
  go_upto_region 10 with (first
    | ((with_reducible refine wpList_alloc_new 98 _ zeroSldV (some 7) ?hgd ?ho ?hd ?_); (case hgd | ho | hd => rfl); (intro b7 w6 l6 B6 e6 z6))
    | ((with_reducible refine wpList_store_new 98 (.tmp 7) (.tmp 59) b7 (Sld.cells ⟨Rec.zero, ⟨#[]⟩⟩) (Sld.cells ⟨closeR v cnt s, t⟩) 98 B6 rfl sizeSldV (oneSldV _) ?hgd ?ho ?hx ?hy ?_); (case hgd | ho | hx | hy => rfl); (intro w7 B7 o7))
    | fail)
  have hb7 : Below w5.heap.size w5 w7 := o7.below (e6.mono l6) l6
  have HL7 := Lib.hid (show w5.heap.size ≤ b7 from l6)
  have HX7 := Lib.hid B7
  have HB7 := Lib.hid (HB5.out.below hb7 HB5.out.lt)
  have HBE7 := Lib.hid (HBE5.out.trans (hb7.mono HBE5.out.size))
  have H7 := Lib.hid (H5.out.below hb7)
  clear B6 B7 e6 z6 o7 l6 hb7
  have hwe : IntKind.i64.wrap (v.epoch + 1) = v.epoch + 1 := IntWalk.i64_in _ (by have := HC.out.e0; have := HC.out.e1; omega)
  refine wp_region_held_drew (S := fun wx => wx.cell? ⟨i.vb, 7, none⟩ = some (.pointer none) ∧ wx.cell? ⟨i.vb, 1, none⟩ = some (.string v.key)) (by kernel_rfl) (⟨(by rw [← HRV.out]; exact H7.out.vol.drew.cell (i := 7) rfl), H7.out.vol.drew.cell (i := 1) rfl⟩) (fun hHeld => ?_)
  obtain ⟨wd, hwd⟩ : ∃ wd, wd = w7.drew := ⟨_, rfl⟩
  have hbd : Below w7.heap.size w7 wd := by rw [hwd]; exact (Below.refl _ _).drew
  have Hd := Lib.hid (H7.out.below hbd)
  have HXd := Lib.hid (HX7.out.below hbd HX7.out.lt)
  have HBd := Lib.hid (HB7.out.below hbd HB7.out.lt)
  have HBEd := Lib.hid (HBE7.out.trans (hbd.mono HBE7.out.size))
  rw [← hwd]
  rw [← hwd] at hHeld
  clear hwd hbd
  refine wpAnyH_take (i := 0) (v := ?_) rfl (by kernel_rfl) (by kernel_rfl) (by kernel_rfl) (fun _ _ _ h => h) (Or.inl ⟨by rfl, ?_⟩) (by assumption) ?_
  rotate_left
  · intro w hSw; (try dsimp only at hSw); go_simp; first | done | with_reducible rfl
  (try simp only [Act.put, Array.getInternal_eq_getElem, List.getElem_toArray, List.getElem_cons_succ, List.getElem_cons_zero, List.setIfInBounds_toArray, List.set_cons_zero, List.set_cons_succ])
  refine wpAnyH_take (i := 1) (v := ?_) rfl (by kernel_rfl) (by kernel_rfl) (by kernel_rfl) (fun _ _ _ h => h) (Or.inl ⟨by rfl, ?_⟩) (by assumption) ?_
  rotate_left
  · intro w hSw; (try dsimp only at hSw); go_simp; first | done | with_reducible rfl
  (try simp only [Act.put, Array.getInternal_eq_getElem, List.getElem_toArray, List.getElem_cons_succ, List.getElem_cons_zero, List.setIfInBounds_toArray, List.set_cons_zero, List.set_cons_succ])
  refine wpAnyH_take (i := 2) (v := ?_) rfl (by kernel_rfl) (by kernel_rfl) (by kernel_rfl) (fun _ _ _ h => h) (Or.inl ⟨by rfl, ?_⟩) (by assumption) ?_
  rotate_left
  · intro w hSw; (try dsimp only at hSw); go_simp; first | done | with_reducible rfl
  (try simp only [Act.put, Array.getInternal_eq_getElem, List.getElem_toArray, List.getElem_cons_succ, List.getElem_cons_zero, List.setIfInBounds_toArray, List.set_cons_zero, List.set_cons_succ])
  refine wpAnyH_take (i := 3) (v := ?_) rfl (by kernel_rfl) (by kernel_rfl) (by kernel_rfl) (fun _ _ _ h => h) (Or.inl ⟨by rfl, ?_⟩) (by assumption) ?_
  rotate_left
  · intro w hSw; (try dsimp only at hSw); go_simp; first | done | with_reducible rfl
  (try simp only [Act.put, Array.getInternal_eq_getElem, List.getElem_toArray, List.getElem_cons_succ, List.getElem_cons_zero, List.setIfInBounds_toArray, List.set_cons_zero, List.set_cons_succ])
  refine wpAnyH_take (i := 4) (v := ?_) rfl (by kernel_rfl) (by kernel_rfl) (by kernel_rfl) (fun _ _ _ h => h) (Or.inl ⟨by rfl, ?_⟩) (by assumption) ?_
  rotate_left
  · intro w hSw; (try dsimp only at hSw); go_simp; first | done | with_reducible rfl
  (try simp only [Act.put, Array.getInternal_eq_getElem, List.getElem_toArray, List.getElem_cons_succ, List.getElem_cons_zero, List.setIfInBounds_toArray, List.set_cons_zero, List.set_cons_succ])
  refine wpAnyH_take (i := 5) (v := ?_) rfl (by kernel_rfl) (by kernel_rfl) (by kernel_rfl) (fun _ _ _ h => h) (Or.inl ⟨by rfl, ?_⟩) (by assumption) ?_
  rotate_left
  · intro w hSw; (try dsimp only at hSw); go_simp; first | done | with_reducible rfl
  (try simp only [Act.put, Array.getInternal_eq_getElem, List.getElem_toArray, List.getElem_cons_succ, List.getElem_cons_zero, List.setIfInBounds_toArray, List.set_cons_zero, List.set_cons_succ])
  refine wpAnyH_take (i := 6) (v := ?_) rfl (by kernel_rfl) (by kernel_rfl) (by kernel_rfl) (fun _ _ _ h => h) (Or.inl ⟨by rfl, ?_⟩) (by assumption) ?_
  rotate_left
  · intro w hSw; (try dsimp only at hSw); go_simp; first | done | with_reducible rfl
  (try simp only [Act.put, Array.getInternal_eq_getElem, List.getElem_toArray, List.getElem_cons_succ, List.getElem_cons_zero, List.setIfInBounds_toArray, List.set_cons_zero, List.set_cons_succ])
  refine wpAnyH_take (i := 7) (v := ?_) rfl (by kernel_rfl) (by kernel_rfl) (by kernel_rfl) (fun _ _ _ h => h) (Or.inl ⟨by rfl, ?_⟩) (by assumption) ?_
  rotate_left
  · intro w hSw; (try dsimp only at hSw); go_simp; first | done | with_reducible rfl
  (try simp only [Act.put, Array.getInternal_eq_getElem, List.getElem_toArray, List.getElem_cons_succ, List.getElem_cons_zero, List.setIfInBounds_toArray, List.set_cons_zero, List.set_cons_succ])
  refine wpAnyH_take (i := 8) (v := ?_) rfl (by kernel_rfl) (by kernel_rfl) (by kernel_rfl) (fun _ _ _ h => h) (Or.inl ⟨by rfl, ?_⟩) (by assumption) ?_
  rotate_left
  · intro w hSw; (try dsimp only at hSw); go_simp; first | done | with_reducible rfl
  (try simp only [Act.put, Array.getInternal_eq_getElem, List.getElem_toArray, List.getElem_cons_succ, List.getElem_cons_zero, List.setIfInBounds_toArray, List.set_cons_zero, List.set_cons_succ])
  refine wpAnyH_take (i := 9) (v := ?_) rfl (by kernel_rfl) (by kernel_rfl) (by kernel_rfl) (fun _ _ _ h => h) (Or.inl ⟨by rfl, ?_⟩) (by assumption) ?_
  rotate_left
  · intro w hSw; (try dsimp only at hSw); go_simp; first | done | with_reducible rfl
  (try simp only [Act.put, Array.getInternal_eq_getElem, List.getElem_toArray, List.getElem_cons_succ, List.getElem_cons_zero, List.setIfInBounds_toArray, List.set_cons_zero, List.set_cons_succ])
  refine wpAnyH_ready (rs := [10]) (by kernel_rfl) (by simp) ?_
  refine AllReadyH.cons rfl (fun K hK => ?_) AllReadyH.nil
  go_simp
  refine (ringNone_walk (v.epoch + 1) v.key _ HC.out.key).mono ?_
  rintro e we ⟨⟨nk, rfl, tn⟩, hbe⟩
  have HTN := Lib.hid tn
  have He := Lib.hid (Hd.out.below hbe)
  have HXe := Lib.hid (HXd.out.below hbe HXd.out.lt)
  have HBe := Lib.hid (HBd.out.below hbe HBd.out.lt)
  have HBEe := Lib.hid (HBEd.out.trans (hbe.mono HBEd.out.size))
  clear hbe tn
  (try go_wp2_with fail)
  refine hK.out _ _ (⟨(by rw [← HRV.out]; exact He.out.vol.cell (i := 7) rfl), He.out.vol.cell (i := 1) rfl⟩) (fun hHeld2 => ?_)
  clear hK K hHeld
  have hHeld := hHeld2
  clear hHeld2
  (try simp only [Act.put, Array.getInternal_eq_getElem, List.getElem_toArray, List.getElem_cons_succ, List.getElem_cons_zero, List.setIfInBounds_toArray, List.set_cons_zero, List.set_cons_succ])
  refine wpAnyH_take (i := 11) (v := ?_) rfl (by kernel_rfl) (by kernel_rfl) (by kernel_rfl) (fun _ _ _ h => h) (Or.inl ⟨by rfl, ?_⟩) (by assumption) ?_
  rotate_left
  · intro w hSw; (try dsimp only at hSw); go_simp; first | done | with_reducible rfl
  (try simp only [Act.put, Array.getInternal_eq_getElem, List.getElem_toArray, List.getElem_cons_succ, List.getElem_cons_zero, List.setIfInBounds_toArray, List.set_cons_zero, List.set_cons_succ])
  refine wpAnyH_done (by kernel_rfl) ?_ _
  clear hHeld
  go_upto_region 11 with fail
  refine wp_region_held_drew (S := fun wx => wx.cell? ⟨i.vb, 0, none⟩ = some (.pointer (some ⟨i.jb, 0, none⟩)) ∧ wx.cell? ⟨i.vb, 6, none⟩ = some (.pointer (some ⟨i.cb, 0, none⟩))) (by kernel_rfl) (⟨He.out.vol.drew.cell (i := 0) rfl, He.out.vol.drew.cell (i := 6) rfl⟩) (fun hHeld => ?_)
  obtain ⟨wg, hwg⟩ : ∃ wg, wg = we.drew := ⟨_, rfl⟩
  have hbg : Below we.heap.size we wg := by rw [hwg]; exact (Below.refl _ _).drew
  have Hg := Lib.hid (He.out.below hbg)
  have HXg := Lib.hid (HXe.out.below hbg HXe.out.lt)
  have HBg := Lib.hid (HBe.out.below hbg HBe.out.lt)
  have HBEg := Lib.hid (HBEe.out.trans (hbg.mono HBEe.out.size))
  rw [← hwg]
  rw [← hwg] at hHeld
  clear hwg hbg
  refine wpAnyH_take (i := 0) (v := ?_) rfl (by kernel_rfl) (by kernel_rfl) (by kernel_rfl) (fun _ _ _ h => h) (Or.inl ⟨by rfl, ?_⟩) (by assumption) ?_
  rotate_left
  · intro w hSw; (try dsimp only at hSw); go_simp; first | done | with_reducible rfl
  (try simp only [Act.put, Array.getInternal_eq_getElem, List.getElem_toArray, List.getElem_cons_succ, List.getElem_cons_zero, List.setIfInBounds_toArray, List.set_cons_zero, List.set_cons_succ])
  refine wpAnyH_take (i := 1) (v := ?_) rfl (by kernel_rfl) (by kernel_rfl) (by kernel_rfl) (fun _ _ _ h => h) (Or.inl ⟨by rfl, ?_⟩) (by assumption) ?_
  rotate_left
  · intro w hSw; (try dsimp only at hSw); go_simp; first | done | with_reducible rfl
  (try simp only [Act.put, Array.getInternal_eq_getElem, List.getElem_toArray, List.getElem_cons_succ, List.getElem_cons_zero, List.setIfInBounds_toArray, List.set_cons_zero, List.set_cons_succ])
  refine wpAnyH_take (i := 2) (v := ?_) rfl (by kernel_rfl) (by kernel_rfl) (by kernel_rfl) (fun _ _ _ h => h) (Or.inl ⟨by rfl, ?_⟩) (by assumption) ?_
  rotate_left
  · intro w hSw; (try dsimp only at hSw); go_simp; first | done | with_reducible rfl
  (try simp only [Act.put, Array.getInternal_eq_getElem, List.getElem_toArray, List.getElem_cons_succ, List.getElem_cons_zero, List.setIfInBounds_toArray, List.set_cons_zero, List.set_cons_succ])
  refine wpAnyH_take (i := 3) (v := ?_) rfl (by kernel_rfl) (by kernel_rfl) (by kernel_rfl) (fun _ _ _ h => h) (Or.inl ⟨by rfl, ?_⟩) (by assumption) ?_
  rotate_left
  · intro w hSw; (try dsimp only at hSw); go_simp; first | done | with_reducible rfl
  (try simp only [Act.put, Array.getInternal_eq_getElem, List.getElem_toArray, List.getElem_cons_succ, List.getElem_cons_zero, List.setIfInBounds_toArray, List.set_cons_zero, List.set_cons_succ])
  refine wpAnyH_take (i := 4) (v := ?_) rfl (by kernel_rfl) (by kernel_rfl) (by kernel_rfl) (fun _ _ _ h => h) (Or.inl ⟨by rfl, ?_⟩) (by assumption) ?_
  rotate_left
  · intro w hSw; (try dsimp only at hSw); go_simp; first | done | with_reducible rfl
  (try simp only [Act.put, Array.getInternal_eq_getElem, List.getElem_toArray, List.getElem_cons_succ, List.getElem_cons_zero, List.setIfInBounds_toArray, List.set_cons_zero, List.set_cons_succ])
  refine wpAnyH_take (i := 5) (v := ?_) rfl (by kernel_rfl) (by kernel_rfl) (by kernel_rfl) (fun _ _ _ h => h) (Or.inl ⟨by rfl, ?_⟩) (by assumption) ?_
  rotate_left
  · intro w hSw; (try dsimp only at hSw); go_simp; first | done | with_reducible rfl
  (try simp only [Act.put, Array.getInternal_eq_getElem, List.getElem_toArray, List.getElem_cons_succ, List.getElem_cons_zero, List.setIfInBounds_toArray, List.set_cons_zero, List.set_cons_succ])
  refine wpAnyH_take (i := 6) (v := ?_) rfl (by kernel_rfl) (by kernel_rfl) (by kernel_rfl) (fun _ _ _ h => h) (Or.inl ⟨by rfl, ?_⟩) (by assumption) ?_
  rotate_left
  · intro w hSw; (try dsimp only at hSw); go_simp; first | done | with_reducible rfl
  (try simp only [Act.put, Array.getInternal_eq_getElem, List.getElem_toArray, List.getElem_cons_succ, List.getElem_cons_zero, List.setIfInBounds_toArray, List.set_cons_zero, List.set_cons_succ])
  refine wpAnyH_take (i := 7) (v := ?_) rfl (by kernel_rfl) (by kernel_rfl) (by kernel_rfl) (fun _ _ _ h => h) (Or.inl ⟨by rfl, ?_⟩) (by assumption) ?_
  rotate_left
  · intro w hSw; (try dsimp only at hSw); go_simp; first | done | with_reducible rfl
  (try simp only [Act.put, Array.getInternal_eq_getElem, List.getElem_toArray, List.getElem_cons_succ, List.getElem_cons_zero, List.setIfInBounds_toArray, List.set_cons_zero, List.set_cons_succ])
  refine wpAnyH_take (i := 8) (v := ?_) rfl (by kernel_rfl) (by kernel_rfl) (by kernel_rfl) (fun _ _ _ h => h) (Or.inl ⟨by rfl, ?_⟩) (by assumption) ?_
  rotate_left
  · intro w hSw; (try dsimp only at hSw); go_simp; first | done | with_reducible rfl
  (try simp only [Act.put, Array.getInternal_eq_getElem, List.getElem_toArray, List.getElem_cons_succ, List.getElem_cons_zero, List.setIfInBounds_toArray, List.set_cons_zero, List.set_cons_succ])
  refine wpAnyH_take (i := 9) (v := ?_) rfl (by kernel_rfl) (by kernel_rfl) (by kernel_rfl) (fun _ _ _ h => h) (Or.inl ⟨by rfl, ?_⟩) (by assumption) ?_
  rotate_left
  · intro w hSw; (try dsimp only at hSw); go_simp; first | done | with_reducible rfl
  (try simp only [Act.put, Array.getInternal_eq_getElem, List.getElem_toArray, List.getElem_cons_succ, List.getElem_cons_zero, List.setIfInBounds_toArray, List.set_cons_zero, List.set_cons_succ])
  refine wpAnyH_ready (rs := [10]) (by kernel_rfl) (by simp) ?_
  refine AllReadyH.cons rfl (fun K hK => ?_) AllReadyH.nil
  go_simp
  refine (clockNow_walk i.cb v.clock _ Hg.out.clock).mono ?_
  rintro e w' ⟨rfl, rfl⟩
  (try go_wp2_with fail)
  refine hK.out _ _ (⟨Hg.out.vol.cell (i := 0) rfl, Hg.out.vol.cell (i := 6) rfl⟩) (fun hHeld2 => ?_)
  clear hK K hHeld
  have hHeld := hHeld2
  clear hHeld2
  (try simp only [Act.put, Array.getInternal_eq_getElem, List.getElem_toArray, List.getElem_cons_succ, List.getElem_cons_zero, List.setIfInBounds_toArray, List.set_cons_zero, List.set_cons_succ])
  refine wpAnyH_ready (rs := [11]) (by kernel_rfl) (by simp) ?_
  refine AllReadyH.cons rfl (fun K hK => ?_) AllReadyH.nil
  go_simp
  refine (jclose_walk i v bl nk v.clock _ Hg.out HC.out.ok (by rw [HTB.out.size]; exact holdL_length _ HHL.out) (by rw [HTN.out.size, madeL_length]) HC.out.room HC.out.c0 HC.out.t1 HC.out.gen (by rw [HC.out.ep]; exact HC.out.e1)).mono ?_
  rintro e wh ⟨rfl, kb, q, nb, tk, tq, hnb, ht⟩
  have HTK := Lib.hid tk
  have HTQ := Lib.hid tq
  have HNB := Lib.hid hnb
  have HXh := Lib.hid (ht.turned.blk HXg.out (H5.out.fresh HL7.out))
  have HBh := Lib.hid (ht.turned.blk HBg.out (H0.out.fresh HL1.out))
  have HTO := Lib.hid (VolTo.ahead HBEg.out ht)
  clear ht tk tq hnb
  (try go_wp2_with fail)
  refine hK.out _ _ (⟨HTO.out.at'.vol.cell (i := 0) rfl, HTO.out.at'.vol.cell (i := 6) rfl⟩) (fun hHeld2 => ?_)
  clear hK K hHeld
  have hHeld := hHeld2
  clear hHeld2
  (try simp only [Act.put, Array.getInternal_eq_getElem, List.getElem_toArray, List.getElem_cons_succ, List.getElem_cons_zero, List.setIfInBounds_toArray, List.set_cons_zero, List.set_cons_succ])
  refine wpAnyH_take (i := 12) (v := ?_) rfl (by kernel_rfl) (by kernel_rfl) (by kernel_rfl) (fun _ _ _ h => h) (Or.inl ⟨by rfl, ?_⟩) (by assumption) ?_
  rotate_left
  · intro w hSw; (try dsimp only at hSw); go_simp; first | done | with_reducible rfl
  (try simp only [Act.put, Array.getInternal_eq_getElem, List.getElem_toArray, List.getElem_cons_succ, List.getElem_cons_zero, List.setIfInBounds_toArray, List.set_cons_zero, List.set_cons_succ])
  refine wpAnyH_take (i := 13) (v := ?_) rfl (by kernel_rfl) (by kernel_rfl) (by kernel_rfl) (fun _ _ _ h => h) (Or.inl ⟨by rfl, ?_⟩) (by assumption) ?_
  rotate_left
  · intro w hSw; (try dsimp only at hSw); go_simp; first | done | with_reducible rfl
  (try simp only [Act.put, Array.getInternal_eq_getElem, List.getElem_toArray, List.getElem_cons_succ, List.getElem_cons_zero, List.setIfInBounds_toArray, List.set_cons_zero, List.set_cons_succ])
  refine wpAnyH_take (i := 14) (v := ?_) rfl (by kernel_rfl) (by kernel_rfl) (by kernel_rfl) (fun _ _ _ h => h) (Or.inl ⟨by rfl, ?_⟩) (by assumption) ?_
  rotate_left
  · intro w hSw; (try dsimp only at hSw); go_simp; first | done | with_reducible rfl
  (try simp only [Act.put, Array.getInternal_eq_getElem, List.getElem_toArray, List.getElem_cons_succ, List.getElem_cons_zero, List.setIfInBounds_toArray, List.set_cons_zero, List.set_cons_succ])
  refine wpAnyH_take (i := 15) (v := ?_) rfl (by kernel_rfl) (by kernel_rfl) (by kernel_rfl) (fun _ _ _ h => h) (Or.inl ⟨by rfl, ?_⟩) (by assumption) ?_
  rotate_left
  · intro w hSw; (try dsimp only at hSw); go_simp; first | done | with_reducible rfl
  (try simp only [Act.put, Array.getInternal_eq_getElem, List.getElem_toArray, List.getElem_cons_succ, List.getElem_cons_zero, List.setIfInBounds_toArray, List.set_cons_zero, List.set_cons_succ])
  refine wpAnyH_take (i := 16) (v := ?_) rfl (by kernel_rfl) (by kernel_rfl) (by kernel_rfl) (fun _ _ _ h => h) (Or.inl ⟨by rfl, ?_⟩) (by assumption) ?_
  rotate_left
  · intro w hSw; (try dsimp only at hSw); go_simp; first | done | with_reducible rfl
  (try simp only [Act.put, Array.getInternal_eq_getElem, List.getElem_toArray, List.getElem_cons_succ, List.getElem_cons_zero, List.setIfInBounds_toArray, List.set_cons_zero, List.set_cons_succ])
  refine wpAnyH_done (by kernel_rfl) ?_ _
  clear hHeld
  have f1 := HTO.out.at'.vol.free 1
  have x1 := HTO.out.at'.vol.cell (i := 1) rfl
  go_upto_region 15 with fail
  have ht2 : Turned [i.vb] wh (wh.setCell ⟨i.vb, 1, none⟩ (.string nk)) := (Turned.refl _ _).setCell (.inl (by simp)) 1 _
  have HN7 := Lib.hid (H5.out.fresh HL7.out)
  have HN2 := Lib.hid (H0.out.fresh HL1.out)
  have hn7 : b7 ∉ [i.vb] := fun hm => HN7.out (by simp at hm; rw [hm]; simp [VolI.foot])
  have hn2 : b2 ∉ [i.vb] := fun hm => HN2.out (by simp at hm; rw [hm]; simp [VolI.foot])
  have HXi := Lib.hid (ht2.blk HXh.out hn7)
  have HBi := Lib.hid (ht2.blk HBh.out hn2)
  have HTi := Lib.hid (HTO.out.trans (HTO.out.at'.own (key := nk) (sv := i.sv) (l := v.sealed) (ht2.mono (fun x hx => by simp at hx; subst hx; simp)) (HTO.out.at'.vol.set 1 (.string nk)) (sealed_set HTO.out.at' 1 (.string nk)) (fun k hk => .inl hk)))
  obtain ⟨wi, hwi⟩ : ∃ wi, wi = wh.setCell ⟨i.vb, 1, none⟩ (.string nk) := ⟨_, rfl⟩
  rw [← hwi] at HXi HBi HTi
  rw [← hwi]
  clear hwi f1 x1 ht2 hn7 hn2 HTO HXh HBh
  refine wp_region_held_drew (S := fun wx => wx.rangeAt b7 0 (closeR v cnt s).cells ∧ wx.cell? ⟨i.vb, 5, none⟩ = some (.pointer (some ⟨i.bb, 0, none⟩))) (by kernel_rfl) (⟨rec_of_sld HXi.out.drew.range, HTi.out.at'.vol.drew.cell (i := 5) rfl⟩) (fun hHeld => ?_)
  obtain ⟨wj, hwj⟩ : ∃ wj, wj = wi.drew := ⟨_, rfl⟩
  have hbj : Below wi.heap.size wi wj := by rw [hwj]; exact (Below.refl _ _).drew
  have HXj := Lib.hid (HXi.out.below hbj HXi.out.lt)
  have HBj := Lib.hid (HBi.out.below hbj HBi.out.lt)
  have HTj := Lib.hid (HTi.out.below hbj)
  rw [← hwj]
  rw [← hwj] at hHeld
  clear hwj hbj
  refine wpAnyH_take (i := 0) (v := ?_) rfl (by kernel_rfl) (by kernel_rfl) (by kernel_rfl) (fun _ _ _ h => h) (Or.inl ⟨by rfl, ?_⟩) (by assumption) ?_
  rotate_left
  · intro w hSw; (try dsimp only at hSw); go_simp; first | done | with_reducible rfl
  (try simp only [Act.put, Array.getInternal_eq_getElem, List.getElem_toArray, List.getElem_cons_succ, List.getElem_cons_zero, List.setIfInBounds_toArray, List.set_cons_zero, List.set_cons_succ])
  refine wpAnyH_take (i := 1) (v := ?_) rfl (by kernel_rfl) (by kernel_rfl) (by kernel_rfl) (fun _ _ _ h => h) (Or.inl ⟨by rfl, ?_⟩) (by assumption) ?_
  rotate_left
  · intro w hSw; (try dsimp only at hSw); go_simp; first | done | with_reducible rfl
  (try simp only [Act.put, Array.getInternal_eq_getElem, List.getElem_toArray, List.getElem_cons_succ, List.getElem_cons_zero, List.setIfInBounds_toArray, List.set_cons_zero, List.set_cons_succ])
  refine wpAnyH_take (i := 2) (v := ?_) rfl (by kernel_rfl) (by kernel_rfl) (by kernel_rfl) (fun _ _ _ h => h) (Or.inl ⟨by rfl, ?_⟩) (by assumption) ?_
  rotate_left
  · intro w hSw; (try dsimp only at hSw); go_simp; first | done | with_reducible rfl
  (try simp only [Act.put, Array.getInternal_eq_getElem, List.getElem_toArray, List.getElem_cons_succ, List.getElem_cons_zero, List.setIfInBounds_toArray, List.set_cons_zero, List.set_cons_succ])
  refine wpAnyH_take (i := 3) (v := ?_) rfl (by kernel_rfl) (by kernel_rfl) (by kernel_rfl) (fun _ _ _ h => h) (Or.inl ⟨by rfl, ?_⟩) (by assumption) ?_
  rotate_left
  · intro w hSw; (try dsimp only at hSw); go_simp; first | done | with_reducible rfl
  (try simp only [Act.put, Array.getInternal_eq_getElem, List.getElem_toArray, List.getElem_cons_succ, List.getElem_cons_zero, List.setIfInBounds_toArray, List.set_cons_zero, List.set_cons_succ])
  refine wpAnyH_take (i := 4) (v := ?_) rfl (by kernel_rfl) (by kernel_rfl) (by kernel_rfl) (fun _ _ _ h => h) (Or.inl ⟨by rfl, ?_⟩) (by assumption) ?_
  rotate_left
  · intro w hSw; (try dsimp only at hSw); go_simp; first | done | with_reducible rfl
  (try simp only [Act.put, Array.getInternal_eq_getElem, List.getElem_toArray, List.getElem_cons_succ, List.getElem_cons_zero, List.setIfInBounds_toArray, List.set_cons_zero, List.set_cons_succ])
  refine wpAnyH_take (i := 5) (v := .agg ((closeR v cnt s).cells).toArray) rfl (by kernel_rfl) (by kernel_rfl) (by kernel_rfl) (fun _ _ _ h => h) (yieldsIf_load_mid (by rfl) 62 (.tmp 99) rfl b7 0 rfl ((closeR v cnt s).cells) _ (fun w h => h.1) Tryz.underlying62 rfl rsizeRec) (by assumption) ?_
  (try simp only [Act.put, Array.getInternal_eq_getElem, List.getElem_toArray, List.getElem_cons_succ, List.getElem_cons_zero, List.setIfInBounds_toArray, List.set_cons_zero, List.set_cons_succ])
  refine wpAnyH_ready (rs := [6]) (by kernel_rfl) (by simp) ?_
  refine AllReadyH.cons rfl (fun K hK => ?_) AllReadyH.nil
  go_simp
  refine (apply1_walk i.bb i.c2 i.m1 i.m2 i.m3 v.n v.first v.epoch v.now v.U v.L v.G (closeR v cnt s) _ HTj.out.at'.book HTj.out.at'.bclock HTj.out.at'.maps rfl (closeR_ok HC.out HNN.out.1 HNN.out.2 (by rw [HTS.out.size, HLL.out])) rfl HC.out.now (book_ne HTj.out.at')).mono ?_
  rintro e wk ⟨⟨rfl, hbk, hck⟩, htk⟩
  have HXk := Lib.hid (htk.blk HXj.out (fun hm => HN7.out (by simp at hm; rcases hm with hm | hm <;> (rw [hm]; simp [VolI.foot]))))
  have HBk := Lib.hid (htk.blk HBj.out (fun hm => HN2.out (by simp at hm; rcases hm with hm | hm <;> (rw [hm]; simp [VolI.foot]))))
  have HTk := Lib.hid (HTj.out.trans (HTj.out.at'.closed htk hbk hck))
  clear hbk hck htk
  (try go_wp2_with fail)
  refine hK.out _ _ (⟨rec_of_sld HXk.out.range, HTk.out.at'.vol.cell (i := 5) rfl⟩) (fun hHeld2 => ?_)
  clear hK K hHeld
  have hHeld := hHeld2
  clear hHeld2
  (try simp only [Act.put, Array.getInternal_eq_getElem, List.getElem_toArray, List.getElem_cons_succ, List.getElem_cons_zero, List.setIfInBounds_toArray, List.set_cons_zero, List.set_cons_succ])
  refine wpAnyH_done (by kernel_rfl) ?_ _
  clear hHeld
  go_upto_region 16 with fail
  refine wp_region_held_drew (S := fun wx => wx.rangeAt b7 0 (Sld.cells ⟨closeR v cnt s, t⟩)) (by kernel_rfl) (HXk.out.drew.range) (fun hHeld => ?_)
  obtain ⟨wl, hwl⟩ : ∃ wl, wl = wk.drew := ⟨_, rfl⟩
  have hbl : Below wk.heap.size wk wl := by rw [hwl]; exact (Below.refl _ _).drew
  have HXl := Lib.hid (HXk.out.below hbl HXk.out.lt)
  have HBl := Lib.hid (HBk.out.below hbl HBk.out.lt)
  have HTl := Lib.hid (HTk.out.below hbl)
  rw [← hwl]
  rw [← hwl] at hHeld
  clear hwl hbl
  refine wpAnyH_take (i := 0) (v := ?_) rfl (by kernel_rfl) (by kernel_rfl) (by kernel_rfl) (fun _ _ _ h => h) (Or.inl ⟨by rfl, ?_⟩) (by assumption) ?_
  rotate_left
  · intro w hSw; (try dsimp only at hSw); go_simp; first | done | with_reducible rfl
  (try simp only [Act.put, Array.getInternal_eq_getElem, List.getElem_toArray, List.getElem_cons_succ, List.getElem_cons_zero, List.setIfInBounds_toArray, List.set_cons_zero, List.set_cons_succ])
  refine wpAnyH_take (i := 1) (v := ?_) rfl (by kernel_rfl) (by kernel_rfl) (by kernel_rfl) (fun _ _ _ h => h) (Or.inl ⟨by rfl, ?_⟩) (by assumption) ?_
  rotate_left
  · intro w hSw; (try dsimp only at hSw); go_simp; first | done | with_reducible rfl
  (try simp only [Act.put, Array.getInternal_eq_getElem, List.getElem_toArray, List.getElem_cons_succ, List.getElem_cons_zero, List.setIfInBounds_toArray, List.set_cons_zero, List.set_cons_succ])
  refine wpAnyH_take (i := 2) (v := ?_) rfl (by kernel_rfl) (by kernel_rfl) (by kernel_rfl) (fun _ _ _ h => h) (Or.inl ⟨by rfl, ?_⟩) (by assumption) ?_
  rotate_left
  · intro w hSw; (try dsimp only at hSw); go_simp; first | done | with_reducible rfl
  (try simp only [Act.put, Array.getInternal_eq_getElem, List.getElem_toArray, List.getElem_cons_succ, List.getElem_cons_zero, List.setIfInBounds_toArray, List.set_cons_zero, List.set_cons_succ])
  refine wpAnyH_take (i := 3) (v := ?_) rfl (by kernel_rfl) (by kernel_rfl) (by kernel_rfl) (fun _ _ _ h => h) (Or.inl ⟨by rfl, ?_⟩) (by assumption) ?_
  rotate_left
  · intro w hSw; (try dsimp only at hSw); go_simp; first | done | with_reducible rfl
  (try simp only [Act.put, Array.getInternal_eq_getElem, List.getElem_toArray, List.getElem_cons_succ, List.getElem_cons_zero, List.setIfInBounds_toArray, List.set_cons_zero, List.set_cons_succ])
  refine wpAnyH_take (i := 5) (v := .agg ((Sld.cells ⟨closeR v cnt s, t⟩)).toArray) rfl (by kernel_rfl) (by kernel_rfl) (by kernel_rfl) (fun _ _ _ h => h) (yieldsIf_load_mid (by rfl) 98 (.tmp 7) rfl b7 0 rfl ((Sld.cells ⟨closeR v cnt s, t⟩)) _ (fun w h => h) Tryz.underlying98 rfl sizeSldV) (by assumption) ?_
  (try simp only [Act.put, Array.getInternal_eq_getElem, List.getElem_toArray, List.getElem_cons_succ, List.getElem_cons_zero, List.setIfInBounds_toArray, List.set_cons_zero, List.set_cons_succ])
  obtain ⟨i0, hi, hz0, hz1, hz2⟩ := info_parts infoSld
  refine wpAnyH_ready (rs := [4, 6]) (by kernel_rfl) (by simp) ?_
  refine AllReadyH.cons rfl (fun K hK => ?_) (AllReadyH.cons rfl (fun K hK => ?_) AllReadyH.nil)
  · have c4 : wl.cell? ⟨i.vb, 4, none⟩ = some i.sv := HTl.out.at'.vol.cell (i := 4) rfl
    go_simp
    clear c4
    refine hK.out _ _ (HXl.out.range) (fun hHeld2 => ?_)
    clear hK K hHeld
    have hHeld := hHeld2
    clear hHeld2
    (try simp only [Act.put, Array.getInternal_eq_getElem, List.getElem_toArray, List.getElem_cons_succ, List.getElem_cons_zero, List.setIfInBounds_toArray, List.set_cons_zero, List.set_cons_succ])
    refine wpAnyH_ready (rs := [6]) (by kernel_rfl) (by simp) ?_
    refine AllReadyH.cons rfl (fun K hK => ?_) AllReadyH.nil
    refine wp_slice_newV 45 98 1 _ (Sld.cells ⟨closeR v cnt s, t⟩) (.agg (Sld.cells ⟨Rec.zero, ⟨#[]⟩⟩).toArray) 9 96 Tryz.underlying45 infoSld (by omega) (by omega) rfl (by kernel_rfl) ?_
    intro g8 w8 l8 B8 e8 z8
    have hb8 : Below wl.heap.size wl w8 := e8.mono l8
    have HG8 := Lib.hid B8
    have HX8 := Lib.hid (HXl.out.below hb8 HXl.out.lt)
    have HB8 := Lib.hid (HBl.out.below hb8 HBl.out.lt)
    have HT8 := Lib.hid (HTl.out.below hb8)
    clear B8 e8 z8 hb8 l8
    refine hK.out _ _ (HX8.out.range) (fun hHeld2 => ?_)
    clear hK K hHeld
    have hHeld := hHeld2
    clear hHeld2
    (try simp only [Act.put, Array.getInternal_eq_getElem, List.getElem_toArray, List.getElem_cons_succ, List.getElem_cons_zero, List.setIfInBounds_toArray, List.set_cons_zero, List.set_cons_succ])
    refine wpAnyH_ready (rs := [7]) (by kernel_rfl) (by simp) ?_
    refine AllReadyH.cons rfl (fun K hK => ?_) AllReadyH.nil
    refine wp_append_at _ _ 45 rfl i0 (.agg (Sld.cells ⟨Rec.zero, ⟨#[]⟩⟩).toArray) 96 Tryz.underlying45 hi hz0 hz1 hz2 rfl (by decide) rfl HT8.out.at'.sealed ⟨g8, 0, none⟩ 1 1 (Sld.cells ⟨closeR v cnt s, t⟩) rfl rfl (cells_add HG8.out) (oneSldV _) (by have := HC.out.sealed; show v.sealed.length + 1 ≤ maxLen; unfold maxLen; omega) (by have := HC.out.sealed; show (v.sealed.length + 1) * 96 ≤ 140737488355328; omega) (Nat.zero_le _) ?_
    intro v' w9 own9 grow9' near9'
    have grow9 : w8.grownBy w9 i.sv.ownBlock := grow9'
    have near9 : Near w8 i.sv.ownBlock v'.ownBlock := near9'
    clear grow9' near9'
    have HX9 := Lib.hid (HX8.out.grown grow9 (fun e => HN7.out (by simp only [VolI.foot, List.mem_append, Option.mem_toList, Option.mem_def]; exact .inr (.inr (.inr e.symm)))))
    have HB9 := Lib.hid (HB8.out.grown grow9 (fun e => HN2.out (by simp only [VolI.foot, List.mem_append, Option.mem_toList, Option.mem_def]; exact .inr (.inr (.inr e.symm)))))
    have HV9 := Lib.hid (HT8.out.at'.vol.grown grow9 (fun e => absurd (show 98 = 50 from (own_ty HT8.out.at'.sealed e.symm).eq HT8.out.at'.vol.ty) (by decide)))
    obtain ⟨p9, q9, hsh⟩ := own_shape own9
    subst hsh
    have HO9 := Lib.hid own9
    have HGR := Lib.hid grow9
    have HNE := Lib.hid near9
    clear own9 grow9 near9
    refine hK.out _ _ (HX9.out.range) (fun hHeld2 => ?_)
    clear hK K hHeld
    have hHeld := hHeld2
    clear hHeld2
    (try simp only [Act.put, Array.getInternal_eq_getElem, List.getElem_toArray, List.getElem_cons_succ, List.getElem_cons_zero, List.setIfInBounds_toArray, List.set_cons_zero, List.set_cons_succ])
    refine wpAnyH_take (i := 8) (v := ?_) rfl (by kernel_rfl) (by kernel_rfl) (by kernel_rfl) (fun _ _ _ h => h) (Or.inl ⟨by rfl, ?_⟩) (by assumption) ?_
    rotate_left
    · intro w hSw; (try dsimp only at hSw); go_simp; first | done | with_reducible rfl
    (try simp only [Act.put, Array.getInternal_eq_getElem, List.getElem_toArray, List.getElem_cons_succ, List.getElem_cons_zero, List.setIfInBounds_toArray, List.set_cons_zero, List.set_cons_succ])
    refine wpAnyH_take (i := 9) (v := ?_) rfl (by kernel_rfl) (by kernel_rfl) (by kernel_rfl) (fun _ _ _ h => h) (Or.inl ⟨by rfl, ?_⟩) (by assumption) ?_
    rotate_left
    · intro w hSw; (try dsimp only at hSw); go_simp; first | done | with_reducible rfl
    (try simp only [Act.put, Array.getInternal_eq_getElem, List.getElem_toArray, List.getElem_cons_succ, List.getElem_cons_zero, List.setIfInBounds_toArray, List.set_cons_zero, List.set_cons_succ])
    have c4 := HV9.out.cell (i := 4) rfl
    have f4 := HV9.out.free 4
    refine wpAnyH_ready (rs := [10]) (by kernel_rfl) (by simp) ?_
    refine AllReadyH.cons rfl (fun K hK => ?_) AllReadyH.nil
    go_simp
    have HX10 := Lib.hid (HX9.out.set_other (a := ⟨i.vb, 4, none⟩) (fun e => HN7.out (by rw [e]; simp [VolI.foot])) (.slice p9 (v.sealed.length + 1) q9))
    have HB10 := Lib.hid (HB9.out.set_other (a := ⟨i.vb, 4, none⟩) (fun e => HN2.out (by rw [e]; simp [VolI.foot])) (.slice p9 (v.sealed.length + 1) q9))
    refine hK.out _ _ (HX10.out.range) (fun hHeld2 => ?_)
    clear hK K hHeld
    have hHeld := hHeld2
    clear hHeld2
    (try simp only [Act.put, Array.getInternal_eq_getElem, List.getElem_toArray, List.getElem_cons_succ, List.getElem_cons_zero, List.setIfInBounds_toArray, List.set_cons_zero, List.set_cons_succ])
    refine wpAnyH_done (by kernel_rfl) ?_ _
    clear hHeld c4 f4
    have HT10 := Lib.hid (HT8.out.trans (HT8.out.at'.own (key := nk) (sv := (.slice p9 (v.sealed.length + 1) q9)) (l := v.sealed ++ [⟨closeR v cnt s, t⟩]) ((Turned.of_grown HGR.out (fun k hk => by simp [hk])).setCell (.inl (by simp)) 4 (.slice p9 (v.sealed.length + 1) q9)) (HV9.out.set 4 (.slice p9 (v.sealed.length + 1) q9)) (by rw [List.length_append, flatS_snoc]; exact own_turned HO9.out ((Turned.refl [i.vb] w9).setCell (.inl (by simp)) 4 (.slice p9 (v.sealed.length + 1) q9)) (fun k hk => (own_ty HO9.out hk).notin (TyIn.one HV9.out.ty) (by decide))) (fun k hk => HNE.out.elim (fun e => .inl (by rw [← e]; exact hk)) (fun f => .inr (f k hk)))))
    obtain ⟨w10, hw10⟩ : ∃ w10, w10 = w9.setCell ⟨i.vb, 4, none⟩ (.slice p9 (v.sealed.length + 1) q9) := ⟨_, rfl⟩
    rw [← hw10] at HT10 HB10
    rw [← hw10]
    clear hw10 HV9 HO9 HGR HNE HX9 HB9 HX10
    go_upto_region 17 with fail
    have hw17 : IntKind.i64.wrap (v.sealed.length : Int) = (v.sealed.length : Int) := IntWalk.i64_in _ (by have := HC.out.sealed; omega)
    have hw18 : IntKind.i64.wrap ((v.sealed.length : Int) + 1 - 1) = (v.sealed.length : Int) := by rw [IntWalk.i64_in _ (by have := HC.out.sealed; omega)]; omega
    refine wp_region_held_drew (S := fun wx => wx.cell? ⟨i.vb, 4, none⟩ = some (.slice p9 (v.sealed.length + 1) q9)) (by kernel_rfl) (HT10.out.at'.vol.drew.cell (i := 4) rfl) (fun hHeld => ?_)
    obtain ⟨wm, hwm⟩ : ∃ wm, wm = w10.drew := ⟨_, rfl⟩
    have hbm : Below w10.heap.size w10 wm := by rw [hwm]; exact (Below.refl _ _).drew
    have HTm := Lib.hid (HT10.out.below hbm)
    have HBm := Lib.hid (HB10.out.below hbm HB10.out.lt)
    rw [← hwm]
    rw [← hwm] at hHeld
    clear hwm hbm
    refine wpAnyH_take (i := 0) (v := ?_) rfl (by kernel_rfl) (by kernel_rfl) (by kernel_rfl) (fun _ _ _ h => h) (Or.inl ⟨by rfl, ?_⟩) (by assumption) ?_
    rotate_left
    · intro w hSw; (try dsimp only at hSw); go_simp; first | done | with_reducible rfl
    (try simp only [Act.put, Array.getInternal_eq_getElem, List.getElem_toArray, List.getElem_cons_succ, List.getElem_cons_zero, List.setIfInBounds_toArray, List.set_cons_zero, List.set_cons_succ])
    refine wpAnyH_take (i := 1) (v := ?_) rfl (by kernel_rfl) (by kernel_rfl) (by kernel_rfl) (fun _ _ _ h => h) (Or.inl ⟨by rfl, ?_⟩) (by assumption) ?_
    rotate_left
    · intro w hSw; (try dsimp only at hSw); go_simp; first | done | with_reducible rfl
    (try simp only [Act.put, Array.getInternal_eq_getElem, List.getElem_toArray, List.getElem_cons_succ, List.getElem_cons_zero, List.setIfInBounds_toArray, List.set_cons_zero, List.set_cons_succ])
    refine wpAnyH_take (i := 2) (v := ?_) rfl (by kernel_rfl) (by kernel_rfl) (by kernel_rfl) (fun _ _ _ h => h) (Or.inl ⟨by rfl, ?_⟩) (by assumption) ?_
    rotate_left
    · intro w hSw; (try dsimp only at hSw); go_simp; first | done | with_reducible rfl
    (try simp only [Act.put, Array.getInternal_eq_getElem, List.getElem_toArray, List.getElem_cons_succ, List.getElem_cons_zero, List.setIfInBounds_toArray, List.set_cons_zero, List.set_cons_succ])
    refine wpAnyH_take (i := 3) (v := ?_) rfl (by kernel_rfl) (by kernel_rfl) (by kernel_rfl) (fun _ _ _ h => h) (Or.inl ⟨by rfl, ?_⟩) (by assumption) ?_
    rotate_left
    · intro w hSw; (try dsimp only at hSw); go_simp; first | done | with_reducible rfl
    (try simp only [Act.put, Array.getInternal_eq_getElem, List.getElem_toArray, List.getElem_cons_succ, List.getElem_cons_zero, List.setIfInBounds_toArray, List.set_cons_zero, List.set_cons_succ])
    refine wpAnyH_take (i := 4) (v := ?_) rfl (by kernel_rfl) (by kernel_rfl) (by kernel_rfl) (fun _ _ _ h => h) (Or.inl ⟨by rfl, ?_⟩) (by assumption) ?_
    rotate_left
    · intro w hSw; (try dsimp only at hSw); go_simp; first | done | with_reducible rfl
    (try simp only [Act.put, Array.getInternal_eq_getElem, List.getElem_toArray, List.getElem_cons_succ, List.getElem_cons_zero, List.setIfInBounds_toArray, List.set_cons_zero, List.set_cons_succ])
    refine wpAnyH_take (i := 5) (v := ?_) rfl (by kernel_rfl) (by kernel_rfl) (by kernel_rfl) (fun _ _ _ h => h) (Or.inl ⟨by rfl, ?_⟩) (by assumption) ?_
    rotate_left
    · intro w hSw; (try dsimp only at hSw); go_simp; first | done | with_reducible rfl
    (try simp only [Act.put, Array.getInternal_eq_getElem, List.getElem_toArray, List.getElem_cons_succ, List.getElem_cons_zero, List.setIfInBounds_toArray, List.set_cons_zero, List.set_cons_succ])
    refine wpAnyH_take (i := 6) (v := ?_) rfl (by kernel_rfl) (by kernel_rfl) (by kernel_rfl) (fun _ _ _ h => h) (Or.inl ⟨by rfl, ?_⟩) (by assumption) ?_
    rotate_left
    · intro w hSw; (try dsimp only at hSw); go_simp; first | done | with_reducible rfl
    (try simp only [Act.put, Array.getInternal_eq_getElem, List.getElem_toArray, List.getElem_cons_succ, List.getElem_cons_zero, List.setIfInBounds_toArray, List.set_cons_zero, List.set_cons_succ])
    refine wpAnyH_take (i := 7) (v := ?_) rfl (by kernel_rfl) (by kernel_rfl) (by kernel_rfl) (fun _ _ _ h => h) (Or.inl ⟨by rfl, ?_⟩) (by assumption) ?_
    rotate_left
    · intro w hSw; (try dsimp only at hSw); go_simp; first | done | with_reducible rfl
    (try simp only [Act.put, Array.getInternal_eq_getElem, List.getElem_toArray, List.getElem_cons_succ, List.getElem_cons_zero, List.setIfInBounds_toArray, List.set_cons_zero, List.set_cons_succ])
    refine wpAnyH_take (i := 8) (v := ?_) rfl (by kernel_rfl) (by kernel_rfl) (by kernel_rfl) (fun _ _ _ h => h) (Or.inl ⟨by rfl, ?_⟩) (by assumption) ?_
    rotate_left
    · intro w hSw; (try dsimp only at hSw); go_simp; first | done | with_reducible rfl
    (try simp only [Act.put, Array.getInternal_eq_getElem, List.getElem_toArray, List.getElem_cons_succ, List.getElem_cons_zero, List.setIfInBounds_toArray, List.set_cons_zero, List.set_cons_succ])
    refine wpAnyH_take (i := 9) (v := ?_) rfl (by kernel_rfl) (by kernel_rfl) (by kernel_rfl) (fun _ _ _ h => h) (Or.inl ⟨by rfl, ?_⟩) (by assumption) ?_
    rotate_left
    · intro w hSw; (try dsimp only at hSw); go_simp; first | done | with_reducible rfl
    (try simp only [Act.put, Array.getInternal_eq_getElem, List.getElem_toArray, List.getElem_cons_succ, List.getElem_cons_zero, List.setIfInBounds_toArray, List.set_cons_zero, List.set_cons_succ])
    refine wpAnyH_ready (rs := [10]) (by kernel_rfl) (by simp) ?_
    refine AllReadyH.cons rfl (fun K hK => ?_) AllReadyH.nil
    go_simp
    refine (make_walk (.slice p9 (v.sealed.length + 1) q9) (v.sealed ++ [⟨closeR v cnt s, t⟩]) (v.sealed.length : Int) _ (SldRow.own (n := v.sealed.length + 1) (by have h9 := HTm.out.at'.sealed; simp only [List.length_append, List.length_cons, List.length_nil, Nat.zero_add] at h9; exact h9) (by simp)) (by rw [List.length_append]; have := HC.out.sealed; show v.sealed.length + 1 ≤ 1048576; omega) HTAME.out).mono ?_
    rintro e wn ⟨he, hbn⟩
    unfold MakeEnd at he
    obtain ⟨R, hR⟩ : ∃ R, makeS (v.sealed ++ [⟨closeR v cnt s, t⟩]) (v.sealed.length : Int) = R := ⟨_, rfl⟩
    rw [hR] at he
    subst he
    have HR := Lib.hid hR
    have HTn := Lib.hid (HTm.out.below hbn)
    have HBn := Lib.hid (HBm.out.below hbn HBm.out.lt)
    clear hbn hR
    (try go_wp2_with fail)
    refine hK.out _ _ (HTn.out.at'.vol.cell (i := 4) rfl) (fun hHeld2 => ?_)
    clear hK K hHeld
    have hHeld := hHeld2
    clear hHeld2
    (try simp only [Act.put, Array.getInternal_eq_getElem, List.getElem_toArray, List.getElem_cons_succ, List.getElem_cons_zero, List.setIfInBounds_toArray, List.set_cons_zero, List.set_cons_succ])
    refine wpAnyH_take (i := 11) (v := ?_) rfl (by kernel_rfl) (by kernel_rfl) (by kernel_rfl) (fun _ _ _ h => h) (Or.inl ⟨by rfl, ?_⟩) (by assumption) ?_
    rotate_left
    · intro w hSw; (try dsimp only at hSw); go_simp; first | done | with_reducible rfl
    (try simp only [Act.put, Array.getInternal_eq_getElem, List.getElem_toArray, List.getElem_cons_succ, List.getElem_cons_zero, List.setIfInBounds_toArray, List.set_cons_zero, List.set_cons_succ])
    refine wpAnyH_take (i := 12) (v := ?_) rfl (by kernel_rfl) (by kernel_rfl) (by kernel_rfl) (fun _ _ _ h => h) (Or.inl ⟨by rfl, ?_⟩) (by assumption) ?_
    rotate_left
    · intro w hSw; (try dsimp only at hSw); go_simp; first | done | with_reducible rfl
    (try simp only [Act.put, Array.getInternal_eq_getElem, List.getElem_toArray, List.getElem_cons_succ, List.getElem_cons_zero, List.setIfInBounds_toArray, List.set_cons_zero, List.set_cons_succ])
    refine wpAnyH_ready (rs := [13]) (by kernel_rfl) (by simp) ?_
    refine AllReadyH.cons rfl (fun K hK => ?_) AllReadyH.nil
    refine wp_store_all 64 (.tmp 2) (.tmp 123) b2 Rcp.zero.cells R.1.cells 64 HBn.out rfl rsizeRcp (Rcp.cells_one _) rfl rfl rfl ?_
    intro wo Bo oo
    have HTo := Lib.hid (HTn.out.away (oo.turned (by simp)) (HTn.out.at'.notype HBn.out.ty (by decide)) HL1.out)
    refine hK.out _ _ (HTo.out.at'.vol.cell (i := 4) rfl) (fun hHeld2 => ?_)
    clear hK K hHeld
    have hHeld := hHeld2
    clear hHeld2
    (try simp only [Act.put, Array.getInternal_eq_getElem, List.getElem_toArray, List.getElem_cons_succ, List.getElem_cons_zero, List.setIfInBounds_toArray, List.set_cons_zero, List.set_cons_succ])
    refine wpAnyH_take (i := 14) (v := ?_) rfl (by kernel_rfl) (by kernel_rfl) (by kernel_rfl) (fun _ _ _ h => h) (Or.inl ⟨by rfl, ?_⟩) (by assumption) ?_
    rotate_left
    · intro w hSw; (try dsimp only at hSw); go_simp; first | done | with_reducible rfl
    (try simp only [Act.put, Array.getInternal_eq_getElem, List.getElem_toArray, List.getElem_cons_succ, List.getElem_cons_zero, List.setIfInBounds_toArray, List.set_cons_zero, List.set_cons_succ])
    refine wpAnyH_done (by kernel_rfl) ?_ _
    clear hHeld
    (try go_wp2_with fail)
    (try simp only [Exit.inBlock, Exit.then]); refine bodyPost_ret (results_cell1t rfl _ _ Bo.range rfl Tryz.underlying64 rfl rsizeRcp) rfl ⟨s, t, bl, nk, kb, q, nb, (.slice p9 (v.sealed.length + 1) q9), HTS.out, HTT.out, HTB.out, HTN.out, HTK.out, HTQ.out, HNB.out, by rw [HR.out]; rfl, HTo.out⟩
  · refine wp_slice_newV 45 98 1 _ (Sld.cells ⟨closeR v cnt s, t⟩) (.agg (Sld.cells ⟨Rec.zero, ⟨#[]⟩⟩).toArray) 9 96 Tryz.underlying45 infoSld (by omega) (by omega) rfl (by kernel_rfl) ?_
    intro g8 w8 l8 B8 e8 z8
    have hb8 : Below wl.heap.size wl w8 := e8.mono l8
    have HG8 := Lib.hid B8
    have HX8 := Lib.hid (HXl.out.below hb8 HXl.out.lt)
    have HB8 := Lib.hid (HBl.out.below hb8 HBl.out.lt)
    have HT8 := Lib.hid (HTl.out.below hb8)
    clear B8 e8 z8 hb8 l8
    refine hK.out _ _ (HX8.out.range) (fun hHeld2 => ?_)
    clear hK K hHeld
    have hHeld := hHeld2
    clear hHeld2
    (try simp only [Act.put, Array.getInternal_eq_getElem, List.getElem_toArray, List.getElem_cons_succ, List.getElem_cons_zero, List.setIfInBounds_toArray, List.set_cons_zero, List.set_cons_succ])
    refine wpAnyH_ready (rs := [4]) (by kernel_rfl) (by simp) ?_
    refine AllReadyH.cons rfl (fun K hK => ?_) AllReadyH.nil
    have c4 : w8.cell? ⟨i.vb, 4, none⟩ = some i.sv := HT8.out.at'.vol.cell (i := 4) rfl
    go_simp
    clear c4
    refine hK.out _ _ (HX8.out.range) (fun hHeld2 => ?_)
    clear hK K hHeld
    have hHeld := hHeld2
    clear hHeld2
    (try simp only [Act.put, Array.getInternal_eq_getElem, List.getElem_toArray, List.getElem_cons_succ, List.getElem_cons_zero, List.setIfInBounds_toArray, List.set_cons_zero, List.set_cons_succ])
    refine wpAnyH_ready (rs := [7]) (by kernel_rfl) (by simp) ?_
    refine AllReadyH.cons rfl (fun K hK => ?_) AllReadyH.nil
    refine wp_append_at _ _ 45 rfl i0 (.agg (Sld.cells ⟨Rec.zero, ⟨#[]⟩⟩).toArray) 96 Tryz.underlying45 hi hz0 hz1 hz2 rfl (by decide) rfl HT8.out.at'.sealed ⟨g8, 0, none⟩ 1 1 (Sld.cells ⟨closeR v cnt s, t⟩) rfl rfl (cells_add HG8.out) (oneSldV _) (by have := HC.out.sealed; show v.sealed.length + 1 ≤ maxLen; unfold maxLen; omega) (by have := HC.out.sealed; show (v.sealed.length + 1) * 96 ≤ 140737488355328; omega) (Nat.zero_le _) ?_
    intro v' w9 own9 grow9' near9'
    have grow9 : w8.grownBy w9 i.sv.ownBlock := grow9'
    have near9 : Near w8 i.sv.ownBlock v'.ownBlock := near9'
    clear grow9' near9'
    have HX9 := Lib.hid (HX8.out.grown grow9 (fun e => HN7.out (by simp only [VolI.foot, List.mem_append, Option.mem_toList, Option.mem_def]; exact .inr (.inr (.inr e.symm)))))
    have HB9 := Lib.hid (HB8.out.grown grow9 (fun e => HN2.out (by simp only [VolI.foot, List.mem_append, Option.mem_toList, Option.mem_def]; exact .inr (.inr (.inr e.symm)))))
    have HV9 := Lib.hid (HT8.out.at'.vol.grown grow9 (fun e => absurd (show 98 = 50 from (own_ty HT8.out.at'.sealed e.symm).eq HT8.out.at'.vol.ty) (by decide)))
    obtain ⟨p9, q9, hsh⟩ := own_shape own9
    subst hsh
    have HO9 := Lib.hid own9
    have HGR := Lib.hid grow9
    have HNE := Lib.hid near9
    clear own9 grow9 near9
    refine hK.out _ _ (HX9.out.range) (fun hHeld2 => ?_)
    clear hK K hHeld
    have hHeld := hHeld2
    clear hHeld2
    (try simp only [Act.put, Array.getInternal_eq_getElem, List.getElem_toArray, List.getElem_cons_succ, List.getElem_cons_zero, List.setIfInBounds_toArray, List.set_cons_zero, List.set_cons_succ])
    refine wpAnyH_take (i := 8) (v := ?_) rfl (by kernel_rfl) (by kernel_rfl) (by kernel_rfl) (fun _ _ _ h => h) (Or.inl ⟨by rfl, ?_⟩) (by assumption) ?_
    rotate_left
    · intro w hSw; (try dsimp only at hSw); go_simp; first | done | with_reducible rfl
    (try simp only [Act.put, Array.getInternal_eq_getElem, List.getElem_toArray, List.getElem_cons_succ, List.getElem_cons_zero, List.setIfInBounds_toArray, List.set_cons_zero, List.set_cons_succ])
    refine wpAnyH_take (i := 9) (v := ?_) rfl (by kernel_rfl) (by kernel_rfl) (by kernel_rfl) (fun _ _ _ h => h) (Or.inl ⟨by rfl, ?_⟩) (by assumption) ?_
    rotate_left
    · intro w hSw; (try dsimp only at hSw); go_simp; first | done | with_reducible rfl
    (try simp only [Act.put, Array.getInternal_eq_getElem, List.getElem_toArray, List.getElem_cons_succ, List.getElem_cons_zero, List.setIfInBounds_toArray, List.set_cons_zero, List.set_cons_succ])
    have c4 := HV9.out.cell (i := 4) rfl
    have f4 := HV9.out.free 4
    refine wpAnyH_ready (rs := [10]) (by kernel_rfl) (by simp) ?_
    refine AllReadyH.cons rfl (fun K hK => ?_) AllReadyH.nil
    go_simp
    have HX10 := Lib.hid (HX9.out.set_other (a := ⟨i.vb, 4, none⟩) (fun e => HN7.out (by rw [e]; simp [VolI.foot])) (.slice p9 (v.sealed.length + 1) q9))
    have HB10 := Lib.hid (HB9.out.set_other (a := ⟨i.vb, 4, none⟩) (fun e => HN2.out (by rw [e]; simp [VolI.foot])) (.slice p9 (v.sealed.length + 1) q9))
    refine hK.out _ _ (HX10.out.range) (fun hHeld2 => ?_)
    clear hK K hHeld
    have hHeld := hHeld2
    clear hHeld2
    (try simp only [Act.put, Array.getInternal_eq_getElem, List.getElem_toArray, List.getElem_cons_succ, List.getElem_cons_zero, List.setIfInBounds_toArray, List.set_cons_zero, List.set_cons_succ])
    refine wpAnyH_done (by kernel_rfl) ?_ _
    clear hHeld c4 f4
    have HT10 := Lib.hid (HT8.out.trans (HT8.out.at'.own (key := nk) (sv := (.slice p9 (v.sealed.length + 1) q9)) (l := v.sealed ++ [⟨closeR v cnt s, t⟩]) ((Turned.of_grown HGR.out (fun k hk => by simp [hk])).setCell (.inl (by simp)) 4 (.slice p9 (v.sealed.length + 1) q9)) (HV9.out.set 4 (.slice p9 (v.sealed.length + 1) q9)) (by rw [List.length_append, flatS_snoc]; exact own_turned HO9.out ((Turned.refl [i.vb] w9).setCell (.inl (by simp)) 4 (.slice p9 (v.sealed.length + 1) q9)) (fun k hk => (own_ty HO9.out hk).notin (TyIn.one HV9.out.ty) (by decide))) (fun k hk => HNE.out.elim (fun e => .inl (by rw [← e]; exact hk)) (fun f => .inr (f k hk)))))
    obtain ⟨w10, hw10⟩ : ∃ w10, w10 = w9.setCell ⟨i.vb, 4, none⟩ (.slice p9 (v.sealed.length + 1) q9) := ⟨_, rfl⟩
    rw [← hw10] at HT10 HB10
    rw [← hw10]
    clear hw10 HV9 HO9 HGR HNE HX9 HB9 HX10
    go_upto_region 17 with fail
    have hw17 : IntKind.i64.wrap (v.sealed.length : Int) = (v.sealed.length : Int) := IntWalk.i64_in _ (by have := HC.out.sealed; omega)
    have hw18 : IntKind.i64.wrap ((v.sealed.length : Int) + 1 - 1) = (v.sealed.length : Int) := by rw [IntWalk.i64_in _ (by have := HC.out.sealed; omega)]; omega
    refine wp_region_held_drew (S := fun wx => wx.cell? ⟨i.vb, 4, none⟩ = some (.slice p9 (v.sealed.length + 1) q9)) (by kernel_rfl) (HT10.out.at'.vol.drew.cell (i := 4) rfl) (fun hHeld => ?_)
    obtain ⟨wm, hwm⟩ : ∃ wm, wm = w10.drew := ⟨_, rfl⟩
    have hbm : Below w10.heap.size w10 wm := by rw [hwm]; exact (Below.refl _ _).drew
    have HTm := Lib.hid (HT10.out.below hbm)
    have HBm := Lib.hid (HB10.out.below hbm HB10.out.lt)
    rw [← hwm]
    rw [← hwm] at hHeld
    clear hwm hbm
    refine wpAnyH_take (i := 0) (v := ?_) rfl (by kernel_rfl) (by kernel_rfl) (by kernel_rfl) (fun _ _ _ h => h) (Or.inl ⟨by rfl, ?_⟩) (by assumption) ?_
    rotate_left
    · intro w hSw; (try dsimp only at hSw); go_simp; first | done | with_reducible rfl
    (try simp only [Act.put, Array.getInternal_eq_getElem, List.getElem_toArray, List.getElem_cons_succ, List.getElem_cons_zero, List.setIfInBounds_toArray, List.set_cons_zero, List.set_cons_succ])
    refine wpAnyH_take (i := 1) (v := ?_) rfl (by kernel_rfl) (by kernel_rfl) (by kernel_rfl) (fun _ _ _ h => h) (Or.inl ⟨by rfl, ?_⟩) (by assumption) ?_
    rotate_left
    · intro w hSw; (try dsimp only at hSw); go_simp; first | done | with_reducible rfl
    (try simp only [Act.put, Array.getInternal_eq_getElem, List.getElem_toArray, List.getElem_cons_succ, List.getElem_cons_zero, List.setIfInBounds_toArray, List.set_cons_zero, List.set_cons_succ])
    refine wpAnyH_take (i := 2) (v := ?_) rfl (by kernel_rfl) (by kernel_rfl) (by kernel_rfl) (fun _ _ _ h => h) (Or.inl ⟨by rfl, ?_⟩) (by assumption) ?_
    rotate_left
    · intro w hSw; (try dsimp only at hSw); go_simp; first | done | with_reducible rfl
    (try simp only [Act.put, Array.getInternal_eq_getElem, List.getElem_toArray, List.getElem_cons_succ, List.getElem_cons_zero, List.setIfInBounds_toArray, List.set_cons_zero, List.set_cons_succ])
    refine wpAnyH_take (i := 3) (v := ?_) rfl (by kernel_rfl) (by kernel_rfl) (by kernel_rfl) (fun _ _ _ h => h) (Or.inl ⟨by rfl, ?_⟩) (by assumption) ?_
    rotate_left
    · intro w hSw; (try dsimp only at hSw); go_simp; first | done | with_reducible rfl
    (try simp only [Act.put, Array.getInternal_eq_getElem, List.getElem_toArray, List.getElem_cons_succ, List.getElem_cons_zero, List.setIfInBounds_toArray, List.set_cons_zero, List.set_cons_succ])
    refine wpAnyH_take (i := 4) (v := ?_) rfl (by kernel_rfl) (by kernel_rfl) (by kernel_rfl) (fun _ _ _ h => h) (Or.inl ⟨by rfl, ?_⟩) (by assumption) ?_
    rotate_left
    · intro w hSw; (try dsimp only at hSw); go_simp; first | done | with_reducible rfl
    (try simp only [Act.put, Array.getInternal_eq_getElem, List.getElem_toArray, List.getElem_cons_succ, List.getElem_cons_zero, List.setIfInBounds_toArray, List.set_cons_zero, List.set_cons_succ])
    refine wpAnyH_take (i := 5) (v := ?_) rfl (by kernel_rfl) (by kernel_rfl) (by kernel_rfl) (fun _ _ _ h => h) (Or.inl ⟨by rfl, ?_⟩) (by assumption) ?_
    rotate_left
    · intro w hSw; (try dsimp only at hSw); go_simp; first | done | with_reducible rfl
    (try simp only [Act.put, Array.getInternal_eq_getElem, List.getElem_toArray, List.getElem_cons_succ, List.getElem_cons_zero, List.setIfInBounds_toArray, List.set_cons_zero, List.set_cons_succ])
    refine wpAnyH_take (i := 6) (v := ?_) rfl (by kernel_rfl) (by kernel_rfl) (by kernel_rfl) (fun _ _ _ h => h) (Or.inl ⟨by rfl, ?_⟩) (by assumption) ?_
    rotate_left
    · intro w hSw; (try dsimp only at hSw); go_simp; first | done | with_reducible rfl
    (try simp only [Act.put, Array.getInternal_eq_getElem, List.getElem_toArray, List.getElem_cons_succ, List.getElem_cons_zero, List.setIfInBounds_toArray, List.set_cons_zero, List.set_cons_succ])
    refine wpAnyH_take (i := 7) (v := ?_) rfl (by kernel_rfl) (by kernel_rfl) (by kernel_rfl) (fun _ _ _ h => h) (Or.inl ⟨by rfl, ?_⟩) (by assumption) ?_
    rotate_left
    · intro w hSw; (try dsimp only at hSw); go_simp; first | done | with_reducible rfl
    (try simp only [Act.put, Array.getInternal_eq_getElem, List.getElem_toArray, List.getElem_cons_succ, List.getElem_cons_zero, List.setIfInBounds_toArray, List.set_cons_zero, List.set_cons_succ])
    refine wpAnyH_take (i := 8) (v := ?_) rfl (by kernel_rfl) (by kernel_rfl) (by kernel_rfl) (fun _ _ _ h => h) (Or.inl ⟨by rfl, ?_⟩) (by assumption) ?_
    rotate_left
    · intro w hSw; (try dsimp only at hSw); go_simp; first | done | with_reducible rfl
    (try simp only [Act.put, Array.getInternal_eq_getElem, List.getElem_toArray, List.getElem_cons_succ, List.getElem_cons_zero, List.setIfInBounds_toArray, List.set_cons_zero, List.set_cons_succ])
    refine wpAnyH_take (i := 9) (v := ?_) rfl (by kernel_rfl) (by kernel_rfl) (by kernel_rfl) (fun _ _ _ h => h) (Or.inl ⟨by rfl, ?_⟩) (by assumption) ?_
    rotate_left
    · intro w hSw; (try dsimp only at hSw); go_simp; first | done | with_reducible rfl
    (try simp only [Act.put, Array.getInternal_eq_getElem, List.getElem_toArray, List.getElem_cons_succ, List.getElem_cons_zero, List.setIfInBounds_toArray, List.set_cons_zero, List.set_cons_succ])
    refine wpAnyH_ready (rs := [10]) (by kernel_rfl) (by simp) ?_
    refine AllReadyH.cons rfl (fun K hK => ?_) AllReadyH.nil
    go_simp
    refine (make_walk (.slice p9 (v.sealed.length + 1) q9) (v.sealed ++ [⟨closeR v cnt s, t⟩]) (v.sealed.length : Int) _ (SldRow.own (n := v.sealed.length + 1) (by have h9 := HTm.out.at'.sealed; simp only [List.length_append, List.length_cons, List.length_nil, Nat.zero_add] at h9; exact h9) (by simp)) (by rw [List.length_append]; have := HC.out.sealed; show v.sealed.length + 1 ≤ 1048576; omega) HTAME.out).mono ?_
    rintro e wn ⟨he, hbn⟩
    unfold MakeEnd at he
    obtain ⟨R, hR⟩ : ∃ R, makeS (v.sealed ++ [⟨closeR v cnt s, t⟩]) (v.sealed.length : Int) = R := ⟨_, rfl⟩
    rw [hR] at he
    subst he
    have HR := Lib.hid hR
    have HTn := Lib.hid (HTm.out.below hbn)
    have HBn := Lib.hid (HBm.out.below hbn HBm.out.lt)
    clear hbn hR
    (try go_wp2_with fail)
    refine hK.out _ _ (HTn.out.at'.vol.cell (i := 4) rfl) (fun hHeld2 => ?_)
    clear hK K hHeld
    have hHeld := hHeld2
    clear hHeld2
    (try simp only [Act.put, Array.getInternal_eq_getElem, List.getElem_toArray, List.getElem_cons_succ, List.getElem_cons_zero, List.setIfInBounds_toArray, List.set_cons_zero, List.set_cons_succ])
    refine wpAnyH_take (i := 11) (v := ?_) rfl (by kernel_rfl) (by kernel_rfl) (by kernel_rfl) (fun _ _ _ h => h) (Or.inl ⟨by rfl, ?_⟩) (by assumption) ?_
    rotate_left
    · intro w hSw; (try dsimp only at hSw); go_simp; first | done | with_reducible rfl
    (try simp only [Act.put, Array.getInternal_eq_getElem, List.getElem_toArray, List.getElem_cons_succ, List.getElem_cons_zero, List.setIfInBounds_toArray, List.set_cons_zero, List.set_cons_succ])
    refine wpAnyH_take (i := 12) (v := ?_) rfl (by kernel_rfl) (by kernel_rfl) (by kernel_rfl) (fun _ _ _ h => h) (Or.inl ⟨by rfl, ?_⟩) (by assumption) ?_
    rotate_left
    · intro w hSw; (try dsimp only at hSw); go_simp; first | done | with_reducible rfl
    (try simp only [Act.put, Array.getInternal_eq_getElem, List.getElem_toArray, List.getElem_cons_succ, List.getElem_cons_zero, List.setIfInBounds_toArray, List.set_cons_zero, List.set_cons_succ])
    refine wpAnyH_ready (rs := [13]) (by kernel_rfl) (by simp) ?_
    refine AllReadyH.cons rfl (fun K hK => ?_) AllReadyH.nil
    refine wp_store_all 64 (.tmp 2) (.tmp 123) b2 Rcp.zero.cells R.1.cells 64 HBn.out rfl rsizeRcp (Rcp.cells_one _) rfl rfl rfl ?_
    intro wo Bo oo
    have HTo := Lib.hid (HTn.out.away (oo.turned (by simp)) (HTn.out.at'.notype HBn.out.ty (by decide)) HL1.out)
    refine hK.out _ _ (HTo.out.at'.vol.cell (i := 4) rfl) (fun hHeld2 => ?_)
    clear hK K hHeld
    have hHeld := hHeld2
    clear hHeld2
    (try simp only [Act.put, Array.getInternal_eq_getElem, List.getElem_toArray, List.getElem_cons_succ, List.getElem_cons_zero, List.setIfInBounds_toArray, List.set_cons_zero, List.set_cons_succ])
    refine wpAnyH_take (i := 14) (v := ?_) rfl (by kernel_rfl) (by kernel_rfl) (by kernel_rfl) (fun _ _ _ h => h) (Or.inl ⟨by rfl, ?_⟩) (by assumption) ?_
    rotate_left
    · intro w hSw; (try dsimp only at hSw); go_simp; first | done | with_reducible rfl
    (try simp only [Act.put, Array.getInternal_eq_getElem, List.getElem_toArray, List.getElem_cons_succ, List.getElem_cons_zero, List.setIfInBounds_toArray, List.set_cons_zero, List.set_cons_succ])
    refine wpAnyH_done (by kernel_rfl) ?_ _
    clear hHeld
    (try go_wp2_with fail)
    (try simp only [Exit.inBlock, Exit.then]); refine bodyPost_ret (results_cell1t rfl _ _ Bo.range rfl Tryz.underlying64 rfl rsizeRcp) rfl ⟨s, t, bl, nk, kb, q, nb, (.slice p9 (v.sealed.length + 1) q9), HTS.out, HTT.out, HTB.out, HTN.out, HTK.out, HTQ.out, HNB.out, by rw [HR.out]; rfl, HTo.out⟩
end Go.Proofs.YtppdboadjefieaaGreat

