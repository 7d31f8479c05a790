/- Walk of chain.sealer.next (chapter 20). -/
import Derived.Test.YtidekfbgjghcjaaGreatSeal1
namespace Go.Proofs.YtidekfbgjghcjaaGreat
set_option linter.unusedSimpArgs false
set_option linter.unusedVariables false
open Go Go.RowKit
set_option linter.unusedVariables false

set_option maxRecDepth 100000 in
set_option maxHeartbeats 2000000 in
theorem slrNext_walk (b : Nat) (key was : ByteArray) (root : List UInt8) (f j seq : Nat) (r : Rec) (w : World) (hB : Blk w b (slrCells key ((f + j : Nat) : Int) was (seq : Int)) 208)
    (hk : Txt key (atL root f j)) (hr : recOk r = true) (h1 : ((f + j : Nat) : Int) ≤ r.epoch) (hwas : was.size = 32) (hs : seq ≤ 4294967295) :
    Calls Tryz.prog 79 #[.pointer (some ⟨b, 0, none⟩), r.v] w fun e w' => ∃ t k', e = .returned (.string t) ∧ Txt t (tagC (atL root f (r.epoch.toNat - f)) was.data.toList seq r) ∧ Txt k' (atL root f (r.epoch.toNat - f)) ∧ Blk w' b (slrCells k' r.epoch t ((seq + 1 : Nat) : Int)) 208 ∧ Kept b w w' := by
  have hre : 0 ≤ r.epoch ∧ r.epoch ≤ 4294967295 := by
    simp only [recOk, Bool.and_eq_true, decide_eq_true_eq] at hr
    omega
  obtain ⟨E, hE⟩ : ∃ E : Nat, r.epoch = (E : Int) := ⟨r.epoch.toNat, by omega⟩
  have hE4 : E ≤ 4294967295 := by omega
  have hjE : f + j ≤ E := by omega
  have HE := Lib.hid hE
  have hfits : r.root.size ≤ 1048576 ∧ r.name.size ≤ 1048576 ∧ Fits r.epoch := by
    have := recOk_facts hr
    exact ⟨by omega, by omega, by unfold Fits; omega⟩
  have HF := Lib.hid hfits; clear hfits
  have HR := Lib.hid hr; clear hr hE hre h1
  have HW := Lib.hid hwas; clear hwas
  have hb := hB.lt
  have HB := Lib.hid hB; clear hB
  go_enter Tryz.func79, Tryz.ntmps79
  go_wp2_with ((with_reducible refine wpList_box_new 25 (.tmp 1) r.cells (some 3) ?hgd ?ho ?hd ?hx ?_); (case hgd => rfl); (case ho => rfl); (case hd => rfl); (case hx => rfl); (intro bx w0 l0 B0 e0 z0; have R0 := Lib.hid (RecAt.blk B0)))
  have hbx : b ≠ bx := by omega
  have HB0 := Lib.hid (HB.out.below e0 (by omega))
  have hK0 : Kept b w w0 := (Kept.refl b w).below' e0 l0
  have HK0 := Lib.hid hK0
  clear hK0 HB B0
  go_loopw [12] (fun _ wr => ∃ (i : Nat) (k : ByteArray), f + i ≤ E ∧ Txt k (atL root f i) ∧ Blk wr b (slrCells k ((f + i : Nat) : Int) was (seq : Int)) 208 ∧ RecAt wr bx r ∧ Kept b w wr) (fun _ wr => ((E : Int) - epochAt wr b).toNat)
  case atStart => exact ⟨j, key, hjE, hk, HB0.out, R0.out, HK0.out⟩
  case round =>
    clear HB0 R0 HK0
    obtain ⟨i, k, hiE, tk, hblk, hrec, hkept⟩ := hrel
    have hea : epochAt wr b = ((f + i : Nat) : Int) := by unfold epochAt; rw [hblk.cell (i := 1) rfl]
    have HEA := Lib.hid hea; clear hea
    have k0 := hblk.cell (i := 0) rfl
    have k1 := hblk.cell (i := 1) rfl
    have k2 := hblk.cell (i := 2) rfl
    have k3 := hblk.cell (i := 3) rfl
    have f0 := hblk.free 0
    have f1 := hblk.free 1
    have x1 : wr.cell? ⟨bx, 1, none⟩ = some (.int .i64 (E : Int)) := by rw [hrec.c1, HE.out]
    have HB := Lib.hid hblk; clear hblk
    have HR1 := Lib.hid hrec; clear hrec
    have HKP := Lib.hid hkept; clear hkept
    obtain ⟨ei, hei⟩ : ∃ ei, ei = f + i := ⟨_, rfl⟩
    rw [← hei] at k1
    have HEI := Lib.hid hei
    by_cases hlt : ei < E
    · have hlt' : (ei : Int) < E := by omega
      have hei4 : ei ≤ 4294967295 := by omega
      clear k2 k3 hei
      go_wp2_with fail
      go_quiet (fail)
      go_wp2_with fail
      refine (nextKey_walk k _).mono ?_
      rintro e w2 ⟨he, hb2⟩
      obtain ⟨k', rfl, tk'⟩ := he.yes (by rw [tk.size, atL_length])
      have B2 := (HB.out.drewN _).below hb2 (HB.out.drewN _).lt
      have R2 := (HR1.out.below (Below.drewN (Below.refl _ _) _) (by exact HR1.out.lt)).below hb2 HR1.out.lt
      have K2 := HKP.out.below' ((Below.drewN (Below.refl wr.heap.size wr) _).trans hb2) (Nat.le_refl _)
      have k0' := B2.cell (i := 0) rfl
      have k1' := B2.cell (i := 1) rfl
      rw [← HEI.out] at k1'
      have f0' := B2.free 0
      have f1' := B2.free 1
      have B4 := (B2.set 0 (.string k')).set 1 (.int .i64 ((ei + 1 : Nat) : Int))
      have K4 := (K2.setCell 0 (.string k')).setCell 1 (.int .i64 ((ei + 1 : Nat) : Int))
      have R4 := ((((Kept.refl b w2).setCell 0 (.string k')).setCell 1 (.int .i64 ((ei + 1 : Nat) : Int)))).blkNe R2 (Ne.symm hbx)
      have HB4 := Lib.hid B4
      have HK4 := Lib.hid K4
      have HR4 := Lib.hid R4
      have ht : Txt k' (atL root f (i + 1)) := by rw [atL_succ]; rw [tk] at tk'; exact tk'
      clear B2 R2 K2 B4 K4 R4 k0 k1 f0 f1 x1 HB HR1 HKP hb2
      go_wp2_with fail
      go_roundw
      case rel =>
        refine ⟨i + 1, k', by have := HEI.out; omega, ht, ?_, HR4.out, HK4.out⟩
        refine HB4.out.ext ?_
        show [Value.string k', Value.int .i64 ((ei + 1 : Nat) : Int), Value.string was, Value.int .i64 (seq : Int)] = [Value.string k', Value.int .i64 ((f + (i + 1) : Nat) : Int), Value.string was, Value.int .i64 (seq : Int)]
        rw [HEI.out, Nat.add_assoc]
      case measure =>
        have h2 : epochAt ((w2.setCell ⟨b, 0, none⟩ (.string k')).setCell ⟨b, 1, none⟩ (.int .i64 ((ei : Int) + 1))) b = (ei : Int) + 1 := by unfold epochAt; rw [show (ei : Int) + 1 = ((ei + 1 : Nat) : Int) by simp, HB4.out.cell (i := 1) rfl]
        rw [HEA.out, h2]
        have := HEI.out
        omega
    · obtain rfl : ei = E := by omega
      have hsok : saidCOk was (seq : Int) r := ⟨HW.out, by omega, by omega, HR.out⟩
      have HS := Lib.hid hsok
      have HKS : Hid (k.size = 32) := Lib.hid (by rw [tk.size, atL_length])
      have HTK := Lib.hid tk
      have hbw := HB.out.lt
      obtain ⟨_, x0, x1', x2, x3, x4, x5, x6, x7⟩ := HR1.out
      have f2 := HB.out.free 2
      clear f0 f1 hsok tk hei
      go_wp2_with fail
      go_quiet (fail)
      go_wp2_with fail
      have hbd : b < (wr.drewN nq).heap.size := hbw
      have HBd : Hid (Blk (wr.drewN nq) b (slrCells k ((f + i : Nat) : Int) was (seq : Int)) 208) := Lib.hid (HB.out.drewN _)
      have HKd : Hid (Kept b w (wr.drewN nq)) := Lib.hid (HKP.out.drewN _)
      have X5 : Hid (RecAt (wr.drewN nq) bx r) := Lib.hid (HR1.out.below (Below.drewN (Below.refl _ _) _) (by exact HR1.out.lt))
      generalize wr.drewN nq = w5 at hbd HBd HKd X5 ⊢
      have k0 := HBd.out.cell (i := 0) rfl
      have k2 := HBd.out.cell (i := 2) rfl
      have k3 := HBd.out.cell (i := 3) rfl
      obtain ⟨_, x0, x1, x2, x3, x4, x5, x6, x7⟩ := X5.out
      go_cut [46] from 30 to 49 (fun v wc => ∃ t, v = .string t ∧ Txt t (tagC (atL root f i) was.data.toList seq r) ∧ Blk wc b (slrCells k ((f + i : Nat) : Int) t (seq : Int)) 208 ∧ Kept b w wc)
      case first =>
        go_region_with ((go_at_call 136; refine (ctag_walk k was seq r _ HF.out.1 HF.out.2.1 HF.out.2.2 (by unfold Fits; omega)).mono ?_; rintro e w6 ⟨he, hb6⟩; obtain ⟨t, rfl, tt⟩ := he.yes ⟨HKS.out, HS.out⟩; have c2' : w6.cell? ⟨b, 2, none⟩ = some (.string was) := (HBd.out.drew.below hb6 hbd).cell (i := 2) rfl; have f2' : w6.frozen? ⟨b, 2, none⟩ = false := (HBd.out.drew.below hb6 hbd).free 2; have B6 := Lib.hid ((HBd.out.drew.below hb6 hbd).set 2 (.string t)); have K6 := Lib.hid (((HKd.out.drew).below' hb6 (Nat.le_refl _)).setCell 2 (.string t))))
        all_goals go_wp2_with fail
        all_goals go_meet
        all_goals exact ⟨t, rfl, tt.cast (by rw [show k.data.toList = _ from HTK.out]), B6.out.ext rfl, K6.out⟩
      case rest =>
        obtain ⟨t, rfl, tt, B7, K7⟩ := hcut
        have k2 := B7.cell (i := 2) rfl
        have k3 := B7.cell (i := 3) rfl
        have f3 := B7.free 3
        have HB7 := Lib.hid (B7.set 3 (.int .i64 ((seq + 1 : Nat) : Int)))
        have HK7 := Lib.hid (K7.setCell 3 (.int .i64 ((seq + 1 : Nat) : Int)))
        have hsq : (seq : Int) ≤ 4294967295 := by omega
        clear B7 K7 x0 x1 x2 x3 x4 x5 x6 x7 k0
        go_wp2_with fail
        go_ret
        have hei : r.epoch.toNat - f = i := by have := HEI.out; have := HE.out; omega
        rw [hei]
        refine ⟨t, k, rfl, tt, HTK.out, HB7.out.ext ?_, HK7.out⟩
        rw [HE.out, HEI.out]
        rfl
end Go.Proofs.YtidekfbgjghcjaaGreat
