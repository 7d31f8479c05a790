/- Walk of chain.Forge (chapter 20): a range over a function. -/
import Derived.Test.YtidekfbgjghcjaaGreatG36
namespace Go.Proofs.YtidekfbgjghcjaaGreat
set_option linter.unusedSimpArgs false
set_option linter.unusedVariables false
open Go Go.RowKit Go.Shelf
attribute [local go_sem] Go.Oper.semAt_some

theorem both_stops (n : Nat) (hn : 1 ≤ n) (bm bq n₀ : Nat) (u v : Value) (l m : List Sld) (w : World) (hbm : Blk w bm [u] 52) (hbq : Blk w bq [v] 52) (hu : SldRow w u l) (hv : SldRow w v m) (hl : l.length ≤ 1048576) (hm : m.length ≤ 1048576) :
    SeqStopsK Fence.wide n Tryz.prog 215 #[.pointer (some ⟨bq, 0, none⟩), .pointer (some ⟨bm, 0, none⟩)] (encP (l := l) (m := m)) (Below n₀) (fun xs => (xs = [] ∧ NoPart l m) ∨ ∃ x, xs = [x]) (fun pre => ∃ x, pre = [x]) 1 w := fun r J Jx W hW hJ hJx hY h0 =>
  both1_in n hn bm bq n₀ u v l m r J Jx W (hbm.below hW hbm.lt) (hbq.below hW hbq.lt) (hu.below hW (Nat.le_refl _)) (hv.below hW (Nat.le_refl _)) hl hm
    (fun W' hb => hJ [] W W' none h0 (below_grown hb) (fun r e => by cases e)) hY

def Told (m : List Sld) (below : Int) (k : Nat) (t : Sld) : Prop := m[k]? = some t ∧ saidCOk (lastB (m.take k)) (k : Int) t.r ∧ t.r.epoch < below
def CForgeEnd (l m : List Sld) (below : Int) (e : Ending) : Prop :=
  (∃ k t s, RowPart l m k ∧ m[k]? = some t ∧ saidCOk (lastB (m.take k)) (k : Int) t.r ∧ t.r.epoch < below ∧ e = .returned (.tuple #[.int .i64 t.r.epoch, .string s, .string t.tag, .bool true]) ∧ Txt s (saidC (lastB (m.take k)).data.toList (k : Int) t.r)) ∨
  ((NoPart l m ∨ ∃ k t, RowPart l m k ∧ m[k]? = some t ∧ ¬ (saidCOk (lastB (m.take k)) (k : Int) t.r ∧ t.r.epoch < below)) ∧ e = .returned (.tuple #[.int .i64 0, .string ⟨#[]⟩, .string ⟨#[]⟩, .bool false]))

structure FBox (W : World) (b4 b5 b6 b7 b8 b9 : Nat) (v : Value) (below : Int) (r6 r7 r8 r9 : Value) : Prop where
  k4 : Blk W b4 [v] 52
  k5 : Blk W b5 [.int .i64 below] 3
  k6 : Blk W b6 [r6] 3
  k7 : Blk W b7 [r7] 9
  k8 : Blk W b8 [r8] 9
  k9 : Blk W b9 [r9] 4
theorem Blk.frozenless {w w' : World} {b : Nat} {c : List Value} {t : TypeId} {row : Option Nat} (h : Blk w b c t) (hg : w.grownBy w' row) (hr : ∀ r, row = some r → ∃ o : Obj, w.heap[r]? = some o ∧ o.isCells = false) : Blk w' b c t := by
  refine h.grown hg ?_
  intro e
  obtain ⟨o, h1, h2⟩ := hr b e.symm
  unfold Blk at h
  rw [h] at h1
  injection h1 with h1
  subst h1
  cases h2
theorem FBox.own {W W' : World} {b4 b5 b6 b7 b8 b9 : Nat} {v : Value} {below : Int} {r6 r7 r8 r9 : Value} {row : Option Nat} (h : FBox W b4 b5 b6 b7 b8 b9 v below r6 r7 r8 r9) (hg : W.grownBy W' row) (hr : ∀ r, row = some r → ∃ o : Obj, W.heap[r]? = some o ∧ o.isCells = false) : FBox W' b4 b5 b6 b7 b8 b9 v below r6 r7 r8 r9 :=
  ⟨h.k4.frozenless hg hr, h.k5.frozenless hg hr, h.k6.frozenless hg hr, h.k7.frozenless hg hr, h.k8.frozenless hg hr, h.k9.frozenless hg hr⟩
theorem FBox.below {W W' : World} {b4 b5 b6 b7 b8 b9 : Nat} {v : Value} {below : Int} {r6 r7 r8 r9 : Value} (h : FBox W b4 b5 b6 b7 b8 b9 v below r6 r7 r8 r9) (hb : Below W.heap.size W W') : FBox W' b4 b5 b6 b7 b8 b9 v below r6 r7 r8 r9 :=
  ⟨h.k4.below hb h.k4.lt, h.k5.below hb h.k5.lt, h.k6.below hb h.k6.lt, h.k7.below hb h.k7.lt, h.k8.below hb h.k8.lt, h.k9.below hb h.k9.lt⟩
theorem FBox.put {W : World} {b4 b5 b6 b7 b8 b9 : Nat} {v : Value} {below : Int} {r6 r7 r8 r9 : Value} (h : FBox W b4 b5 b6 b7 b8 b9 v below r6 r7 r8 r9) (h4 : b4 < b5) (h5 : b5 < b6) (h6 : b6 < b7) (h7 : b7 < b8) (h8 : b8 < b9) (q6 q7 q8 q9 : Value) :
    FBox ((((W.setCell ⟨b6, 0, none⟩ q6).setCell ⟨b7, 0, none⟩ q7).setCell ⟨b8, 0, none⟩ q8).setCell ⟨b9, 0, none⟩ q9) b4 b5 b6 b7 b8 b9 v below q6 q7 q8 q9 where
  k4 := (((h.k4.set_other (a := ⟨b6, 0, none⟩) (by show b4 ≠ b6; omega) _).set_other (a := ⟨b7, 0, none⟩) (by show b4 ≠ b7; omega) _).set_other (a := ⟨b8, 0, none⟩) (by show b4 ≠ b8; omega) _).set_other (a := ⟨b9, 0, none⟩) (by show b4 ≠ b9; omega) _
  k5 := (((h.k5.set_other (a := ⟨b6, 0, none⟩) (by show b5 ≠ b6; omega) _).set_other (a := ⟨b7, 0, none⟩) (by show b5 ≠ b7; omega) _).set_other (a := ⟨b8, 0, none⟩) (by show b5 ≠ b8; omega) _).set_other (a := ⟨b9, 0, none⟩) (by show b5 ≠ b9; omega) _
  k6 := (((h.k6.set 0 q6).set_other (a := ⟨b7, 0, none⟩) (by show b6 ≠ b7; omega) _).set_other (a := ⟨b8, 0, none⟩) (by show b6 ≠ b8; omega) _).set_other (a := ⟨b9, 0, none⟩) (by show b6 ≠ b9; omega) _
  k7 := (((h.k7.set_other (a := ⟨b6, 0, none⟩) (by show b7 ≠ b6; omega) _).set 0 q7).set_other (a := ⟨b8, 0, none⟩) (by show b7 ≠ b8; omega) _).set_other (a := ⟨b9, 0, none⟩) (by show b7 ≠ b9; omega) _
  k8 := (((h.k8.set_other (a := ⟨b6, 0, none⟩) (by show b8 ≠ b6; omega) _).set_other (a := ⟨b7, 0, none⟩) (by show b8 ≠ b7; omega) _).set 0 q8).set_other (a := ⟨b9, 0, none⟩) (by show b8 ≠ b9; omega) _
  k9 := (((h.k9.set_other (a := ⟨b6, 0, none⟩) (by show b9 ≠ b6; omega) _).set_other (a := ⟨b7, 0, none⟩) (by show b9 ≠ b7; omega) _).set_other (a := ⟨b8, 0, none⟩) (by show b9 ≠ b8; omega) _).set 0 q9
theorem FBox.drew {W : World} {b4 b5 b6 b7 b8 b9 : Nat} {v : Value} {below : Int} {r6 r7 r8 r9 : Value} (h : FBox W b4 b5 b6 b7 b8 b9 v below r6 r7 r8 r9) : FBox W.drew b4 b5 b6 b7 b8 b9 v below r6 r7 r8 r9 :=
  ⟨h.k4.drew, h.k5.drew, h.k6.drew, h.k7.drew, h.k8.drew, h.k9.drew⟩
structure Once (T : Prop) : Prop where
  out : T
theorem use_one {T G : Prop} (h : Once T → G) (t : T) : G := h ⟨t⟩
theorem keeps_below {W W' : World} (h : Below W.heap.size W W') : KeepsOthers W W' := KeepsOthers.of_grownBy (below_grown h) (fun j o e => by cases e)
theorem zeroInt1 (w : World) : (zeroValue 3).run Tryz.prog w = .ok (.int .i64 0) w := by kernel_rfl
theorem zeroStr1 (w : World) : (zeroValue 9).run Tryz.prog w = .ok (.string ⟨#[]⟩) w := by kernel_rfl
theorem zeroBool1 (w : World) : (zeroValue 4).run Tryz.prog w = .ok (.bool false) w := by kernel_rfl

set_option maxRecDepth 100000 in
set_option maxHeartbeats 8000000 in
theorem cforge_walk (u v : Value) (l m : List Sld) (below : Int) (w : World) (hu : SldRow w u l) (hv : SldRow w v m) (hl : l.length ≤ 1048576) (hm : m.length ≤ 1048576) (htl : SldTame l) (htm : SldTame m) :
    Calls Tryz.prog 119 #[u, v, .int .i64 below] w fun e w' => CForgeEnd l m below e ∧ Below w.heap.size w w' := by
  obtain ⟨p, c, rfl⟩ := hu.shape
  obtain ⟨q, d, rfl⟩ := hv.shape
  obtain ⟨a, ha⟩ : ∃ a, a = l.length := ⟨_, rfl⟩
  obtain ⟨b, hb⟩ : ∃ b, b = m.length := ⟨_, rfl⟩
  rw [← ha] at hu ⊢
  rw [← hb] at hv ⊢
  have hb2 : b ≤ 1048576 := by omega
  have HA := Lib.hid ha; clear ha
  have HB := Lib.hid hb; clear hb
  have HU := Lib.hid hu; clear hu
  have HV := Lib.hid hv; clear hv
  have HTM := Lib.hid htm; clear htm
  clear htl
  refine (callsIn_wide (n := 4)).1 ?_
  refine callsIn_of_wp_marks Tryz.func119 rfl trivial ?_ rfl
  simp only [Tryz.ntmps119, List.size_toArray, List.length_cons, List.length_nil, Nat.reduceAdd, Nat.reduceSub, Array.replicate_succ, Array.replicate_zero, List.push_toArray, List.append_toArray, List.nil_append, List.cons_append]
  apply wpIn_seq_k
  intro K0 hK0
  refine wpIn_wide.2 ?_
  go_wp2_with (first
    | ((with_reducible refine wpList_box_one 52 (.tmp 1) (.slice q b d) rfl (some 4) ?hgd ?ho ?hd ?hx ?_); (case hgd | ho | hd | hx => rfl); (intro b4 w4 l4 B4 e4 z4))
    | ((with_reducible refine wpList_box_one 3 (.tmp 2) (.int .i64 below) rfl (some 5) ?hgd ?ho ?hd ?hx ?_); (case hgd | ho | hd | hx => rfl); (intro b5 w5 l5 B5 e5 z5))
    | ((with_reducible refine wpList_alloc_one 3 (.int .i64 0) zeroInt1 rfl (some 6) ?hgd ?ho ?hd ?_); (case hgd | ho | hd => rfl); (intro b6 w6 l6 B6 e6 z6))
    | ((with_reducible refine wpList_alloc_one 9 (.string ⟨#[]⟩) zeroStr1 rfl (some 7) ?hgd ?ho ?hd ?_); (case hgd | ho | hd => rfl); (intro b7 w7 l7 B7 e7 z7))
    | ((with_reducible refine wpList_alloc_one 9 (.string ⟨#[]⟩) zeroStr1 rfl (some 8) ?hgd ?ho ?hd ?_); (case hgd | ho | hd => rfl); (intro b8 w8 l8 B8 e8 z8))
    | ((with_reducible refine wpList_alloc_one 4 (.bool false) zeroBool1 rfl (some 9) ?hgd ?ho ?hd ?_); (case hgd | ho | hd => rfl); (intro b9 w9 l9 B9 e9 z9))
    | fail)
  have FB0 : FBox w9 b4 b5 b6 b7 b8 b9 (.slice q b d) below (.int .i64 0) (.string ⟨#[]⟩) (.string ⟨#[]⟩) (.bool false) :=
    ⟨((((B4.below e5 (by omega)).below e6 (by omega)).below e7 (by omega)).below e8 (by omega)).below e9 (by omega), (((B5.below e6 (by omega)).below e7 (by omega)).below e8 (by omega)).below e9 (by omega), ((B6.below e7 (by omega)).below e8 (by omega)).below e9 (by omega), (B7.below e8 (by omega)).below e9 (by omega), B8.below e9 (by omega), B9⟩
  have hbw : Below w.heap.size w w9 := (((((e4.mono l4).trans (e5.mono (by omega))).trans (e6.mono (by omega))).trans (e7.mono (by omega))).trans (e8.mono (by omega))).trans (e9.mono (by omega))
  have o4 : w.heap.size ≤ b4 := l4
  have o5 : b4 < b5 := by omega
  have o6 : b5 < b6 := by omega
  have o7 : b6 < b7 := by omega
  have o8 : b7 < b8 := by omega
  have o9 : b8 < b9 := by omega
  clear B4 B5 B6 B7 B8 B9 e4 e5 e6 e7 e8 e9 l4 l5 l6 l7 l8 l9 z4 z5 z6 z7 z8 z9
  have HFB := Lib.hid FB0
  have c4 := FB0.k4.cell (i := 0) rfl
  have HBW := Lib.hid hbw
  clear FB0 hbw
  gi_wp2_with (refine ⟨trivial, ?_⟩; gi_at_call 169; refine (callsIn_wide.2 (both_walk p q a b c d _)).mono ?_; rintro e wA ⟨bm, bq, rfl, BM, BQ, hbA⟩; have HBM := Lib.hid BM; have HBQ := Lib.hid BQ; have HFA := Lib.hid (HFB.out.below hbA); have HWA := Lib.hid (HBW.out.trans (hbA.mono HBW.out.size)); clear BM BQ hbA)
  clear c4
  have hA : w.heap.size ≤ wA.heap.size := HWA.out.size
  refine wpIn_rangeFunc_ownF rfl (by omega) (gf := 215) (lb := #[.pointer (some ⟨bq, 0, none⟩), .pointer (some ⟨bm, 0, none⟩)]) rfl trivial (enters_of Tryz.func215 (by kernel_rfl) rfl)
    (both_stops (4 - 1) (by omega) bm bq w.heap.size (.slice p a c) (.slice q b d) l m wA HBM.out HBQ.out (HU.out.below HWA.out (Nat.le_refl _)) (HV.out.below HWA.out (Nat.le_refl _)) hl hm) belowK_t (belowK_b hA) (Below.refl _ _) (fun _ => rfl)
    (fun pre W => (FBox W b4 b5 b6 b7 b8 b9 (.slice q b d) below (.int .i64 0) (.string ⟨#[]⟩) (.string ⟨#[]⟩) (.bool false) ∧ (∀ x ∈ pre, ∃ t, m[x.1]? = some t ∧ ¬ (saidCOk (lastB (m.take x.1)) (x.1 : Int) t.r ∧ t.r.epoch < below))) ∧ Below w.heap.size w W)
    (fun jc pre W => (jc = .ret ∧ ∃ x t s, pre = [x] ∧ m[x.1]? = some t ∧ saidCOk (lastB (m.take x.1)) (x.1 : Int) t.r ∧ t.r.epoch < below ∧ Txt s (saidC (lastB (m.take x.1)).data.toList (x.1 : Int) t.r) ∧ FBox W b4 b5 b6 b7 b8 b9 (.slice q b d) below (.int .i64 t.r.epoch) (.string s) (.string t.tag) (.bool true)) ∧ Below w.heap.size w W)
    (OwnFrom.and (Own.from (fun s A B row hs hg hr => ⟨hs.1.own hg hr, hs.2⟩) _) (ownFrom_below (Nat.le_refl _) hA))
    (fun jc => OwnFrom.and (Own.from (fun s A B row hs hg hr => by obtain ⟨h1, x, t, y, h2, h3, h4, h5, h6, h7⟩ := hs; exact ⟨h1, x, t, y, h2, h3, h4, h5, h6, h7.own hg hr⟩) _) (ownFrom_below (Nat.le_refl _) hA))
    ⟨⟨HFA.out, by simp⟩, HWA.out⟩
    (fun x => { tmps := #[.slice p a c, .slice q b d, .int .i64 below, undef, .pointer (some ⟨b4, 0, none⟩), .pointer (some ⟨b5, 0, none⟩), .pointer (some ⟨b6, 0, none⟩), .pointer (some ⟨b7, 0, none⟩), .pointer (some ⟨b8, 0, none⟩), .pointer (some ⟨b9, 0, none⟩), .int .i64 (x.1 : Int), .string (lastB (m.take x.1)), undef, undef, undef, .slice p a c, .slice q b d, .func (.func 215) #[] #[.pointer (some ⟨bq, 0, none⟩), .pointer (some ⟨bm, 0, none⟩)], .int .i64 (x.1 : Int), .string (lastB (m.take x.1)), undef, undef, undef, undef, undef, undef, undef, undef, undef, undef, undef, undef, undef, undef, undef, undef, undef, undef, undef, undef, undef, undef, undef, undef, undef, undef, undef], defers := [] }) ?assign ?body ?done ?stop
  case assign =>
    intro r x W K hK
    dsimp only [encP]
    gi_wp2
    exact hK
  case body =>
    rintro r pre x W ⟨⟨hfb, hpre⟩, hB⟩ hlen
    obtain rfl : pre = [] := List.eq_nil_of_length_eq_zero (by omega)
    have hmo : Tryz.prog.follows .mixedOrders = true := by kernel_rfl
    have hk : RowPart l m x.1 := x.2
    obtain ⟨k, ek⟩ : ∃ k, x.1 = k := ⟨_, rfl⟩
    rw [ek] at hk
    dsimp only
    rw [ek]
    have EK := Lib.hid ek
    clear ek
    obtain ⟨t, hx⟩ : ∃ x, m[k]? = some x := ⟨_, List.getElem?_eq_getElem hk.1⟩
    have hkb : k < b := by rw [HB.out]; exact hk.1
    have hkb' : (k : Int) < b := by omega
    have h00 : (0 : Int) ≤ (k : Int) := by omega
    rcases HV.out with ⟨h0, _⟩ | ⟨g, o, c', hq, hcc, hg, hat⟩
    · rw [h0] at hx; simp at hx
    rw [← HB.out] at hq
    injection hq with hq1 _ hq3
    subst hq1 hq3
    have hrange : W.rangeAt g (o + k * 9) t.cells := fun j u hu => by rw [hB.cell (by show g < w.heap.size; exact hg)]; exact hat k t hx j u hu
    obtain ⟨c0, c1, c2, c3, c4, c5, c6, c7, c8⟩ := sld_cells hrange
    have z4 := hfb.k4.cell (i := 0) rfl
    have hty := HTM.out k t hx
    have HTY := Lib.hid hty
    have HX := Lib.hid hx
    clear hrange hat hx hty hpre
    by_cases hso : saidCOk (lastB (m.take k)) (k : Int) t.r
    rotate_left
    · have HSO := Lib.hid hso; clear hso
      gi_wp2_with (refine ⟨trivial, ?_⟩; gi_at_call 133; refine (CallsIn.inRound r (callsIn_wide.2 (csaid_walk (lastB (m.take k)) k t.r _ HTY.out.2.1 HTY.out.1 HTY.out.2.2.2 (by unfold Fits; omega)))).mono ?_; rintro e wS ⟨he, hbS⟩; have he := he.no HSO.out; subst he; have hbW : Below W.heap.size W wS := ((Below.refl _ _).alloc (Nat.le_refl _) _).trans (hbS.mono (by simp)); have B12 : Blk wS W.heap.size t.cells 27 := (Blk.new W t.cells 27).below hbS (by simp); have y1 := B12.cell (i := 1) rfl; have y8 := B12.cell (i := 8) rfl; have HF := Lib.hid (hfb.below hbW); have y5 := HF.out.k5.cell (i := 0) rfl; have HBW2 := Lib.hid hbW; clear hbS hbW B12)
      exact ⟨keeps_below HBW2.out, HBW2.out.mono (by have := hB.size; omega), ⟨HF.out, fun z hz => by
          obtain rfl := List.mem_singleton.1 hz
          rw [EK.out]
          exact ⟨t, HX.out, fun h => HSO.out h.1⟩⟩, hB.trans (HBW2.out.mono hB.size)⟩
    · have HSO := Lib.hid hso; clear hso
      by_cases hlt : t.r.epoch < below
      rotate_left
      · have hlt' : below ≤ t.r.epoch := by omega
        gi_wp2_with (refine ⟨trivial, ?_⟩; gi_at_call 133; refine (CallsIn.inRound r (callsIn_wide.2 (csaid_walk (lastB (m.take k)) k t.r _ HTY.out.2.1 HTY.out.1 HTY.out.2.2.2 (by unfold Fits; omega)))).mono ?_; rintro e wS ⟨he, hbS⟩; obtain ⟨s, rfl, ts⟩ := he.yes HSO.out; clear he; have hbW : Below W.heap.size W wS := ((Below.refl _ _).alloc (Nat.le_refl _) _).trans (hbS.mono (by simp)); have B12 : Blk wS W.heap.size t.cells 27 := (Blk.new W t.cells 27).below hbS (by simp); have y1 := B12.cell (i := 1) rfl; have y8 := B12.cell (i := 8) rfl; have HF := Lib.hid (hfb.below hbW); have y5 := HF.out.k5.cell (i := 0) rfl; have HBW2 := Lib.hid hbW; clear hbS hbW B12)
        exact ⟨keeps_below HBW2.out, HBW2.out.mono (by have := hB.size; omega), ⟨HF.out, fun z hz => by
          obtain rfl := List.mem_singleton.1 hz
          rw [EK.out]
          exact ⟨t, HX.out, fun h => absurd h.2 (by omega)⟩⟩, hB.trans (HBW2.out.mono hB.size)⟩
      · gi_wp2_with (refine ⟨trivial, ?_⟩; gi_at_call 133; refine (CallsIn.inRound r (callsIn_wide.2 (csaid_walk (lastB (m.take k)) k t.r _ HTY.out.2.1 HTY.out.1 HTY.out.2.2.2 (by unfold Fits; omega)))).mono ?_; rintro e wS ⟨he, hbS⟩; obtain ⟨s, rfl, ts⟩ := he.yes HSO.out; clear he; have hbW : Below W.heap.size W wS := ((Below.refl _ _).alloc (Nat.le_refl _) _).trans (hbS.mono (by simp)); have B12 : Blk wS W.heap.size t.cells 27 := (Blk.new W t.cells 27).below hbS (by simp); have y1 := B12.cell (i := 1) rfl; have y8 := B12.cell (i := 8) rfl; have HF := Lib.hid (hfb.below hbW); have y5 := HF.out.k5.cell (i := 0) rfl; have HBW2 := Lib.hid hbW; clear hbS hbW B12)
        have HTS := Lib.hid ts
        clear ts c0 c1 c2 c3 c4 c5 c6 c7 c8 z4
        have x6 := HF.out.k6.cell (i := 0) rfl
        have f6 := HF.out.k6.free 0
        have x7 := HF.out.k7.cell (i := 0) rfl
        have f7 := HF.out.k7.free 0
        have x8 := HF.out.k8.cell (i := 0) rfl
        have f8 := HF.out.k8.free 0
        have x9 := HF.out.k9.cell (i := 0) rfl
        have f9 := HF.out.k9.free 0
        have n67 : ¬ b6 = b7 := by omega
        have n68 : ¬ b6 = b8 := by omega
        have n69 : ¬ b6 = b9 := by omega
        have n76 : ¬ b7 = b6 := by omega
        have n78 : ¬ b7 = b8 := by omega
        have n79 : ¬ b7 = b9 := by omega
        have n86 : ¬ b8 = b6 := by omega
        have n87 : ¬ b8 = b7 := by omega
        have n89 : ¬ b8 = b9 := by omega
        have n96 : ¬ b9 = b6 := by omega
        have n97 : ¬ b9 = b7 := by omega
        have n98 : ¬ b9 = b8 := by omega
        have HFP := Lib.hid (HF.out.put o5 o6 o7 o8 o9 (.int .i64 t.r.epoch) (.string s) (.string t.tag) (.bool true))
        have HKS : Hid (KeepsOthers wS ((((wS.setCell ⟨b6, 0, none⟩ (.int .i64 t.r.epoch)).setCell ⟨b7, 0, none⟩ (.string s)).setCell ⟨b8, 0, none⟩ (.string t.tag)).setCell ⟨b9, 0, none⟩ (.bool true)).drew) := Lib.hid ((((((KeepsOthers.setCell _ _ _).trans (KeepsOthers.setCell _ _ _)).trans (KeepsOthers.setCell _ _ _)).trans (KeepsOthers.setCell _ _ _))).trans (KeepsOthers.drew _))
        have HBF := Lib.hid ((((((hB.trans (HBW2.out.mono hB.size)).setCell (p := ⟨b6, 0, none⟩) (by show w.heap.size ≤ b6; omega) (.int .i64 t.r.epoch)).setCell (p := ⟨b7, 0, none⟩) (by show w.heap.size ≤ b7; omega) (.string s)).setCell (p := ⟨b8, 0, none⟩) (by show w.heap.size ≤ b8; omega) (.string t.tag)).setCell (p := ⟨b9, 0, none⟩) (by show w.heap.size ≤ b9; omega) (.bool true)).drew)
        apply use_one
        · intro hfin
          gi_region_with_o (fail)
          all_goals exact hfin.out
        · gi_wp2_with fail
          exact ⟨(keeps_below HBW2.out).trans HKS.out, ⟨rfl, x, t, s, rfl, by rw [EK.out]; exact HX.out, by rw [EK.out]; exact HSO.out, hlt, by rw [EK.out]; exact HTS.out, HFP.out.drew⟩, HBF.out⟩
  case done =>
    rintro D ys W hD hS ⟨⟨hfb, hpre⟩, hB⟩ hK
    have hno : NoPart l m ∨ ∃ k t, RowPart l m k ∧ m[k]? = some t ∧ ¬ (saidCOk (lastB (m.take k)) (k : Int) t.r ∧ t.r.epoch < below) := by
      rcases hS with ⟨_, h⟩ | ⟨x, rfl⟩
      · exact .inl h
      · obtain ⟨t, h1, h2⟩ := hpre x (List.mem_singleton.2 rfl)
        exact .inr ⟨x.1, t, x.2, h1, h2⟩
    have HNO := Lib.hid hno
    clear hno hS hpre
    have x6 := hfb.k6.cell (i := 0) rfl
    have f6 := hfb.k6.free 0
    have x7 := hfb.k7.cell (i := 0) rfl
    have f7 := hfb.k7.free 0
    have x8 := hfb.k8.cell (i := 0) rfl
    have f8 := hfb.k8.free 0
    have x9 := hfb.k9.cell (i := 0) rfl
    have f9 := hfb.k9.free 0
    have n67 : ¬ b6 = b7 := by omega
    have n68 : ¬ b6 = b8 := by omega
    have n69 : ¬ b6 = b9 := by omega
    have n76 : ¬ b7 = b6 := by omega
    have n78 : ¬ b7 = b8 := by omega
    have n79 : ¬ b7 = b9 := by omega
    have n86 : ¬ b8 = b6 := by omega
    have n87 : ¬ b8 = b7 := by omega
    have n89 : ¬ b8 = b9 := by omega
    have n96 : ¬ b9 = b6 := by omega
    have n97 : ¬ b9 = b7 := by omega
    have n98 : ¬ b9 = b8 := by omega
    have HFP := Lib.hid (hfb.put o5 o6 o7 o8 o9 (.int .i64 0) (.string ⟨#[]⟩) (.string ⟨#[]⟩) (.bool false))
    have hKS : KeepsOthers W ((((W.setCell ⟨b6, 0, none⟩ (.int .i64 0)).setCell ⟨b7, 0, none⟩ (.string ⟨#[]⟩)).setCell ⟨b8, 0, none⟩ (.string ⟨#[]⟩)).setCell ⟨b9, 0, none⟩ (.bool false)) := (((KeepsOthers.setCell _ _ _).trans (KeepsOthers.setCell _ _ _)).trans (KeepsOthers.setCell _ _ _)).trans (KeepsOthers.setCell _ _ _)
    have hK2 := Lib.hid (hKS.same D _ hK rfl)
    have hB2 := Lib.hid ((((hB.setCell (p := ⟨b6, 0, none⟩) (by show w.heap.size ≤ b6; omega) (.int .i64 0)).setCell (p := ⟨b7, 0, none⟩) (by show w.heap.size ≤ b7; omega) (.string ⟨#[]⟩)).setCell (p := ⟨b8, 0, none⟩) (by show w.heap.size ≤ b8; omega) (.string ⟨#[]⟩)).setCell (p := ⟨b9, 0, none⟩) (by show w.heap.size ≤ b9; omega) (.bool false))
    clear hKS
    gi_wp2_with fail
    refine ⟨by simp, .inl ⟨_, _, rfl, run_takeDeferred hK2.out, ?_⟩⟩
    have hF3 := HFP.out.own (grownBy_putObj' _ D (.deferred none)) (fun r e => by cases e; exact ⟨_, hK2.out, rfl⟩)
    have r6 := hF3.k6.cell (i := 0) rfl
    have r7 := hF3.k7.cell (i := 0) rfl
    have r8 := hF3.k8.cell (i := 0) rfl
    have r9 := hF3.k9.cell (i := 0) rfl
    refine ⟨.tuple #[.int .i64 0, .string ⟨#[]⟩, .string ⟨#[]⟩, .bool false], ?_, .inr ⟨HNO.out, rfl⟩, hB2.out.trans (belowK_b (w := w) (Nat.le_refl _) _ D _ _ (by omega) hK2.out rfl rfl)⟩
    simp [results, Tryz.f119, go_sem, r6, r7, r8, r9]
  case stop =>
    rintro D jc pre W hD ⟨x, rfl⟩ ⟨⟨rfl, x', t, s, hx, ht, h1, h2, ts, hfb⟩, hB⟩ hK
    obtain rfl : x = x' := by simpa using hx
    gi_wp2_with fail
    refine ⟨by simp, .inl ⟨_, _, rfl, run_takeDeferred hK, ?_⟩⟩
    have hF3 := hfb.own (grownBy_putObj' _ D (.deferred none)) (fun r e => by cases e; exact ⟨_, hK, rfl⟩)
    have r6 := hF3.k6.cell (i := 0) rfl
    have r7 := hF3.k7.cell (i := 0) rfl
    have r8 := hF3.k8.cell (i := 0) rfl
    have r9 := hF3.k9.cell (i := 0) rfl
    refine ⟨.tuple #[.int .i64 t.r.epoch, .string s, .string t.tag, .bool true], ?_, .inl ⟨x.1, t, s, x.2, ht, h1, h2, rfl, ts⟩, hB.trans (belowK_b (w := w) (Nat.le_refl _) W D _ _ (by omega) hK rfl rfl)⟩
    simp [results, Tryz.f119, go_sem, r6, r7, r8, r9]
end Go.Proofs.YtidekfbgjghcjaaGreat

