/- Walks of the documents' Put, Take, Check (chapter 21). -/
import Derived.Test.YtidekfbgjghcjaaGreatTakeR
import Derived.Test.YtidekfbgjghcjaaGreatRef10
namespace Go.Proofs.YtidekfbgjghcjaaGreat
set_option linter.unusedSimpArgs false
set_option linter.unusedVariables false
open Go Go.RowKit

set_option maxRecDepth 100000 in
set_option maxHeartbeats 4000000 in
theorem rrcpput_walk (x : Rcp) (w : World) (hroot : x.r.root.size ≤ 1048576) (hname : x.r.name.size ≤ 1048576) (hf : Fits x.r.epoch) (hs : Fits x.seq) :
    Calls Tryz.prog 60 #[x.v] w fun e w' => EndsB (rcpOk x = true) (rcpPut x) e ∧ Below w.heap.size w w' := by
  go_enter Tryz.func60, Tryz.ntmps60
  go_wp2_with ((with_reducible refine wpList_box_new 37 (.tmp 0) x.cells (some 1) ?hgd ?ho ?hd ?hx ?_); (case hgd | ho | hd | hx => rfl); (intro b w0 l0 B0 e0 z0; have R0 := Lib.hid (RcpAt.blk B0); obtain ⟨a0, a1, a2, a3, a4, a5, a6, a7, a8, a9, aA⟩ := R0.out.cells_))
  clear a0 a1 a2 a3 a4 a5 a6 a7 a8 a9 aA
  refine (right21_walk x _).mono ?_
  rintro e w1 ⟨rfl, hb1⟩
  have R1 := Lib.hid (R0.out.below hb1 z0)
  have HW1 := Lib.hid ((e0.mono l0).trans (hb1.mono (by have := e0.size; omega)))
  clear R0 B0 e0 l0 z0 hb1
  cases hok : rcpOk x with
  | false =>
    have HK := Lib.hid hok; clear hok
    go_wp2_with fail
    go_ret2
    exact ⟨.inr ⟨by rw [HK.out]; simp, rfl⟩, HW1.out⟩
  | true =>
    have HK := Lib.hid hok
    have hr := rcpOk_rec hok
    simp only [rcpOk, Bool.and_eq_true, decide_eq_true_eq] at hok
    have hw32 : x.was.size ≤ 32 := by omega
    have ht32 : x.tag.size ≤ 32 := by omega
    have hsq : 0 ≤ x.seq ∧ x.seq ≤ 4294967295 := by omega
    have HS := Lib.hid hsq
    have HR := Lib.hid hr
    clear hok hr hsq
    obtain ⟨a0, a1, a2, a3, a4, a5, a6, a7, a8, a9, aA⟩ := R1.out.cells_
    go_wp2_with fail
    clear a0 a1 a2 a3 a4 a5 a6 a7 a8 a9 aA
    refine (rput_walk x.seq 4 _ (by have := HS.out; omega)).mono ?_
    rintro e w2 ⟨he, hb2⟩
    obtain ⟨q, rfl, tq⟩ := he.yes ⟨by have := HS.out; omega, by omega, by omega, by have := HS.out; show x.seq.toNat < 4294967296; omega⟩
    have sq : q.size ≤ 4 := by rw [tq.size, beBytes_length]; simp
    have R2 := Lib.hid (R1.out.below hb2 R1.out.lt)
    have HW2 := Lib.hid (HW1.out.trans (hb2.mono HW1.out.size))
    clear he hb2 R1 HW1
    obtain ⟨a0, a1, a2, a3, a4, a5, a6, a7, a8, a9, aA⟩ := R2.out.cells_
    go_wp2_with fail
    clear a0 a1 a2 a3 a4 a5 a6 a7 a8 a9 aA
    refine (rrecput_walk x.r _ hroot hname hf).mono ?_
    rintro e w3 ⟨⟨hrk, p, rfl, tp⟩ | ⟨hno, rfl⟩, hb3⟩
    rotate_left
    · exfalso
      rw [HR.out.1] at hno
      cases hno
    have sp : p.size ≤ 85 := by rw [tp.size]; exact recPut_length hrk
    have R3 := Lib.hid (R2.out.below hb3 R2.out.lt)
    have HW3 := Lib.hid (HW2.out.trans (hb3.mono HW2.out.size))
    clear hb3 R2 HW2 hrk
    obtain ⟨a0, a1, a2, a3, a4, a5, a6, a7, a8, a9, aA⟩ := R3.out.cells_
    go_wp2_with fail
    go_ret2
    refine ⟨.inl ⟨HK.out, _, rfl, ?_⟩, HW3.out⟩
    exact (((tq.cast rfl).append (Txt.self x.was)).append (Txt.self x.tag)).append tp

end Go.Proofs.YtidekfbgjghcjaaGreat

