/- Walks of the documents' Put, Take, Check (chapter 21). -/
import Derived.Test.YtidekfbgjghcjaaGreatTakeRef2
namespace Go.Proofs.YtidekfbgjghcjaaGreat
set_option linter.unusedSimpArgs false
set_option linter.unusedVariables false
open Go Go.RowKit
set_option linter.unusedVariables false

set_option maxRecDepth 100000 in
set_option maxHeartbeats 4000000 in
theorem rrcpput_walk (x : Rcp) (w : World) (hroot : x.r.root.size ≤ 1048576) (hname : x.r.name.size ≤ 1048576) (hf : Fits x.r.epoch) (hs : Fits x.seq) :
    Calls Tryz.prog 60 #[x.v] w fun e w' => EndsB (rcpOk x = true) (rcpPut x) e ∧ Below w.heap.size w w' := by
  go_enter Tryz.func60, Tryz.ntmps60
  go_wp2_with ((with_reducible refine wpList_box_new 37 (.tmp 0) x.cells (some 1) ?hgd ?ho ?hd ?hx ?_); (case hgd => rfl); (case ho => rfl); (case hd => rfl); (case hx => rfl); (intro b w0 l0 B0 e0 z0; have R0 := Lib.hid (RcpAt.blk B0); obtain ⟨a0, a1, a2, a3, a4, a5, a6, a7, a8, a9, aA⟩ := R0.out.cells_))
  clear a0 a1 a2 a3 a4 a5 a6 a7 a8 a9 aA
  refine (right21_walk x _).mono ?_
  rintro e w1 ⟨rfl, hb1⟩
  have R1 := Lib.hid (R0.out.below hb1 z0)
  have HW1 := Lib.hid ((e0.mono l0).trans (hb1.mono (by have := e0.size; omega)))
  clear R0 B0 e0 l0 z0 hb1
  cases hok : rcpOk x with
  | false =>
    have HK := Lib.hid hok; clear hok
    go_wp2_with fail
    go_ret2
    exact ⟨.inr ⟨by rw [HK.out]; simp, rfl⟩, HW1.out⟩
  | true =>
    have HK := Lib.hid hok
    have hr := rcpOk_rec hok
    simp only [rcpOk, Bool.and_eq_true, decide_eq_true_eq] at hok
    have hw32 : x.was.size ≤ 32 := by omega
    have ht32 : x.tag.size ≤ 32 := by omega
    have hsq : 0 ≤ x.seq ∧ x.seq ≤ 4294967295 := by omega
    have HS := Lib.hid hsq
    have HR := Lib.hid hr
    clear hok hr hsq
    obtain ⟨a0, a1, a2, a3, a4, a5, a6, a7, a8, a9, aA⟩ := R1.out.cells_
    go_wp2_with fail
    clear a0 a1 a2 a3 a4 a5 a6 a7 a8 a9 aA
    refine (rput_walk x.seq 4 _ (by have := HS.out; omega)).mono ?_
    rintro e w2 ⟨he, hb2⟩
    obtain ⟨q, rfl, tq⟩ := he.yes ⟨by have := HS.out; omega, by omega, by omega, by have := HS.out; show x.seq.toNat < 4294967296; omega⟩
    have sq : q.size ≤ 4 := by rw [tq.size, beBytes_length]; simp
    have R2 := Lib.hid (R1.out.below hb2 R1.out.lt)
    have HW2 := Lib.hid (HW1.out.trans (hb2.mono HW1.out.size))
    clear he hb2 R1 HW1
    obtain ⟨a0, a1, a2, a3, a4, a5, a6, a7, a8, a9, aA⟩ := R2.out.cells_
    go_wp2_with fail
    clear a0 a1 a2 a3 a4 a5 a6 a7 a8 a9 aA
    refine (rrecput_walk x.r _ hroot hname hf).mono ?_
    rintro e w3 ⟨⟨hrk, p, rfl, tp⟩ | ⟨hno, rfl⟩, hb3⟩
    rotate_left
    · exfalso
      rw [HR.out.1] at hno
      cases hno
    have sp : p.size ≤ 85 := by rw [tp.size]; exact recPut_length hrk
    have R3 := Lib.hid (R2.out.below hb3 R2.out.lt)
    have HW3 := Lib.hid (HW2.out.trans (hb3.mono HW2.out.size))
    clear hb3 R2 HW2 hrk
    obtain ⟨a0, a1, a2, a3, a4, a5, a6, a7, a8, a9, aA⟩ := R3.out.cells_
    go_wp2_with fail
    go_ret2
    refine ⟨.inl ⟨HK.out, _, rfl, ?_⟩, HW3.out⟩
    exact (((tq.cast rfl).append (Txt.self x.was)).append (Txt.self x.tag)).append tp

/-- How the documents' Take ends. -/
def RRcpTakeEnd (l : List UInt8) (e : Ending) : Prop :=
  (∃ x left y, rcpTake l = some (x, left) ∧ e = .returned (.tuple #[x.v, .string y, .bool true]) ∧ Txt y left) ∨
  (rcpTake l = none ∧ e = .returned (.tuple #[Rcp.zero.v, .string ⟨#[]⟩, .bool false]))
set_option maxRecDepth 100000 in
set_option maxHeartbeats 4000000 in
theorem rrcheck21_walk (root : ByteArray) (first : Int) (x : Rcp) (w : World) (hroot : x.r.root.size ≤ 1048576) (hname : x.r.name.size ≤ 1048576) (hf : Fits x.r.epoch) (hs : Fits x.seq) :
    Calls Tryz.prog 25 #[.string root, .int .i64 first, x.v] w fun e w' => e = .returned (.int .i64 (rchkS root first x)) ∧ Below w.heap.size w w' := by
  obtain ⟨res, hres⟩ : ∃ res, rchkS root first x = res := ⟨_, rfl⟩
  rw [hres]
  have HRES := Lib.hid hres; clear hres
  by_cases c1 : root.size = 32
  rotate_left
  · have d1 : ¬ (root.size : Int) = 32 := by omega
    have hr : res = 2 := by rw [← HRES.out]; unfold rchkS; rw [if_pos (.inl c1)]
    subst hr
    clear c1
    go_enter Tryz.func25, Tryz.ntmps25
    go_wp2_with ((with_reducible refine wpList_box_new 37 (.tmp 2) x.cells (some 5) ?hgd ?ho ?hd ?hx ?_); (case hgd => rfl); (case ho => rfl); (case hd => rfl); (case hx => rfl); (intro b w0 l0 B0 e0 z0))
    go_ret
    exact ⟨rfl, e0.mono l0⟩
  have d1 : (root.size : Int) = 32 := by omega
  have C1 := Lib.hid c1; clear c1
  by_cases cf : first < 0 ∨ 4294967295 < first
  · have hr : res = 2 := by
      rw [← HRES.out]
      unfold rchkS
      by_cases hh : ¬ root.size = 32 ∨ rcpOk x = false
      · rw [if_pos hh]
      · rw [if_neg hh]
        have hk : rcpOk x = true := by cases h : rcpOk x <;> simp_all
        have := (rcpOk_rec hk).2
        rw [if_pos (by omega)]
    subst hr
    by_cases cf0 : first < 0
    · clear cf
      go_enter Tryz.func25, Tryz.ntmps25
      go_wp2_with ((with_reducible refine wpList_box_new 37 (.tmp 2) x.cells (some 5) ?hgd ?ho ?hd ?hx ?_); (case hgd => rfl); (case ho => rfl); (case hd => rfl); (case hx => rfl); (intro b w0 l0 B0 e0 z0))
      go_ret
      exact ⟨rfl, e0.mono l0⟩
    · have cf1 : 4294967295 < first := by omega
      clear cf
      go_enter Tryz.func25, Tryz.ntmps25
      go_wp2_with ((with_reducible refine wpList_box_new 37 (.tmp 2) x.cells (some 5) ?hgd ?ho ?hd ?hx ?_); (case hgd => rfl); (case ho => rfl); (case hd => rfl); (case hx => rfl); (intro b w0 l0 B0 e0 z0))
      go_ret
      exact ⟨rfl, e0.mono l0⟩
  have cf0 : 0 ≤ first := by omega
  have cf1 : first ≤ 4294967295 := by omega
  clear cf
  cases hok : rcpOk x with
  | false =>
    have hr : res = 2 := by rw [← HRES.out]; unfold rchkS; rw [if_pos (.inr hok)]
    subst hr
    have HK := Lib.hid hok; clear hok
    go_enter Tryz.func25, Tryz.ntmps25
    go_wp2_with ((with_reducible refine wpList_box_new 37 (.tmp 2) x.cells (some 5) ?hgd ?ho ?hd ?hx ?_); (case hgd => rfl); (case ho => rfl); (case hd => rfl); (case hx => rfl); (intro b w0 l0 B0 e0 z0; have R0 := Lib.hid (RcpAt.blk B0); obtain ⟨a0, a1, a2, a3, a4, a5, a6, a7, a8, a9, aA⟩ := R0.out.cells_))
    refine (right21_walk x _).mono ?_
    rintro e w1 ⟨rfl, hb1⟩
    rw [HK.out]
    go_wp2_with fail
    go_ret
    exact ⟨rfl, (e0.mono l0).trans (hb1.mono (by have := e0.size; omega))⟩
  | true =>
    obtain ⟨g1, g2, g3⟩ := rcpOk_rec hok
    have HK := Lib.hid hok; clear hok
    go_enter Tryz.func25, Tryz.ntmps25
    go_wp2_with ((with_reducible refine wpList_box_new 37 (.tmp 2) x.cells (some 5) ?hgd ?ho ?hd ?hx ?_); (case hgd => rfl); (case ho => rfl); (case hd => rfl); (case hx => rfl); (intro b w0 l0 B0 e0 z0; have R0 := Lib.hid (RcpAt.blk B0); obtain ⟨a0, a1, a2, a3, a4, a5, a6, a7, a8, a9, aA⟩ := R0.out.cells_))
    clear a0 a1 a2 a3 a4 a5 a6 a7 a8 a9 aA
    refine (right21_walk x _).mono ?_
    rintro e w1 ⟨rfl, hb1⟩
    rw [HK.out]
    have R1 := Lib.hid (R0.out.below hb1 z0)
    have hbw := (e0.mono l0).trans (hb1.mono (by have := e0.size; omega))
    obtain ⟨_, _, a2, _, _, _, _, _, _, _, _⟩ := R1.out.cells_
    clear B0 R0 hb1 e0 l0
    have G1 := Lib.hid g1; clear g1
    go_wp2_with fail
    refine (rat_walk root first x.r.epoch _).mono ?_
    rintro e w2 ⟨he, hb2⟩
    have hbw2 := hbw.trans (hb2.mono hbw.size)
    have hrl : root.data.toList.length = 32 := C1.out
    rcases he with ⟨c2, key, rfl, tk⟩ | ⟨c2, rfl⟩ | ⟨c2, rfl⟩
    · have R2 := Lib.hid (R1.out.below hb2 R1.out.lt)
      have hks : key.size = 32 := by rw [tk.size, atL_length]
      have HKS := Lib.hid hks
      have HTK := Lib.hid tk
      have hr : res = if tagC (atL root.data.toList first.toNat (x.r.epoch - first).toNat) x.was.data.toList x.seq x.r = x.tag.data.toList then 0 else 15 := by
        rw [← HRES.out]
        unfold rchkS
        rw [if_neg (by rw [HK.out]; have := C1.out; simp; omega), if_neg (by omega), if_neg (by omega)]
      have HRS := Lib.hid hr
      obtain ⟨a0, a1, a2', a3, a4, a5, a6, a7, a8, a9, aA⟩ := R2.out.cells_
      clear c2 tk hks hr hrl a2 HRES
      go_wp2_with fail
      clear a0 a1 a2' a3 a4 a5 a6 a7 a8 a9 aA
      refine (rctag_walk key x.was x.seq x.r _ hroot hname hf hs (by have := (rcpOk_said HK.out).1; omega)).mono ?_
      rintro e w3 ⟨he, hb3⟩
      obtain ⟨t, rfl, tt⟩ := he.yes ⟨HKS.out, rcpOk_said HK.out⟩
      have tt' : Txt t (tagC (atL root.data.toList first.toNat (x.r.epoch - first).toNat) x.was.data.toList x.seq x.r) := tt.cast (by rw [show key.data.toList = _ from HTK.out])
      obtain ⟨_, _, _, _, _, _, _, _, _, _, aA⟩ := (R2.out.below hb3 R2.out.lt).cells_
      have hbw3 := hbw2.trans (hb3.mono hbw2.size)
      by_cases hT : tagC (atL root.data.toList first.toNat (x.r.epoch - first).toNat) x.was.data.toList x.seq x.r = x.tag.data.toList
      · have e1 : (t.toList == x.tag.toList) = true := tt'.same (Txt.self _) hT
        have hres0 : res = 0 := by rw [HRS.out, if_pos hT]
        have HR0 := Lib.hid hres0
        clear tt tt' hT hres0 HRS
        go_wp2_with fail
        go_ret
        exact ⟨by rw [HR0.out]; rfl, hbw3⟩
      · have e1 : (t.toList == x.tag.toList) = false := tt'.other (Txt.self _) hT
        have hres0 : res = 15 := by rw [HRS.out, if_neg hT]
        have HR0 := Lib.hid hres0
        clear tt tt' hT hres0 HRS
        go_wp2_with fail
        go_ret
        exact ⟨by rw [HR0.out]; rfl, hbw3⟩
    · have hr : res = 2 := by
        rw [← HRES.out]
        unfold rchkS
        rw [if_neg (by rw [HK.out]; have := C1.out; simp; omega), if_pos (by omega)]
      have HR0 := Lib.hid hr
      clear c2 hr hrl
      go_wp2_with fail
      go_ret
      exact ⟨by rw [HR0.out]; rfl, hbw2⟩
    · have hr : res = 6 := by
        rw [← HRES.out]
        unfold rchkS
        rw [if_neg (by rw [HK.out]; have := C1.out; simp; omega), if_neg (by omega), if_pos (by omega)]
      have HR0 := Lib.hid hr
      clear c2 hr hrl
      go_wp2_with fail
      go_ret
      exact ⟨by rw [HR0.out]; rfl, hbw2⟩
end Go.Proofs.YtidekfbgjghcjaaGreat
