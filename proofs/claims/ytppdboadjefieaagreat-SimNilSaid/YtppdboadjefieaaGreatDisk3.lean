/- What a disk's place shows (chapter 8): Read. -/
import Derived.Test.YtppdboadjefieaaGreatDisk1
namespace Go.Proofs.YtppdboadjefieaaGreat
set_option linter.unusedSimpArgs false
set_option linter.unusedVariables false
open Go Go.RowKit
set_option linter.unusedVariables false
set_option maxRecDepth 100000

theorem DiskAt.block {w : World} {db : Nat} {d : DiskD} (h : DiskAt w db d) {i : Nat} (hi : i < d.bs.length) : ∃ g c, d.bv = .slice (some ⟨g, 0, none⟩) d.bs.length c ∧ w.cell? ⟨g, i, none⟩ = some (.string (d.bs.getD i ByteArray.empty)) := by
  obtain ⟨g, cap, z, hv, hc, _, hb⟩ := own_split h.rb (by omega)
  refine ⟨g, cap, hv, hb.cell ?_⟩
  rw [List.getElem?_append_left (by simpa using hi)]
  simp [List.getD, List.getElem?_eq_getElem hi]
theorem DiskAt.cached_at {w : World} {db : Nat} {d : DiskD} (h : DiskAt w db d) {k : Nat} (hk : k < d.cs.length) : ∃ g c, d.cv = .slice (some ⟨g, 0, none⟩) d.cs.length c ∧ w.cell? ⟨g, k * 2, none⟩ = some (.int .i64 (d.cs.getD k (0, ByteArray.empty)).1) ∧ w.cell? ⟨g, k * 2 + 1, none⟩ = some (.string (d.cs.getD k (0, ByteArray.empty)).2) := by
  obtain ⟨g, cap, z, hv, hc, _, hb⟩ := own_split h.rc (by omega)
  have hg : d.cs.getD k (0, ByteArray.empty) = d.cs[k] := by simp [List.getD, List.getElem?_eq_getElem hk]
  obtain ⟨h1, h2⟩ := flatP_at d.cs k d.cs[k] (List.getElem?_eq_getElem hk)
  have hl := flatP_length d.cs
  rw [hg]
  exact ⟨g, cap, hv, hb.cell (by rw [List.getElem?_append_left (by omega)]; exact h1), hb.cell (by rw [List.getElem?_append_left (by omega)]; exact h2)⟩
set_option maxHeartbeats 1000000 in
theorem dread_walk (db : Nat) (d : DiskD) (w : World) (h : DiskAt w db d) (hd : d.down = false) (i : Nat) (hi : i < d.bs.length) (hc : d.cs.length ≤ 4096) (hb : d.bs.length ≤ 1024) :
    Calls Tryz.prog 252 #[.pointer (some ⟨db, 0, none⟩), .int .i64 (i : Int)] w fun e w' => e = .returned (.tuple #[.string (d.shown i), .int .i64 0]) ∧ w = w' := by
  have HH := Lib.hid h
  obtain ⟨n, hn⟩ : ∃ n, d.cs.length = n := ⟨_, rfl⟩
  have HN := Lib.hid hn
  rw [hn] at hc
  obtain ⟨pc, cc, hcv⟩ := cv_shape h
  have c1 := h.blk.cell (i := 1) rfl
  rw [hcv, hn] at c1
  obtain ⟨gb, cb, hbv, hblk⟩ := h.block hi
  have c0 := h.blk.cell (i := 0) rfl
  rw [hbv] at c0
  have HCV := Lib.hid hcv
  obtain ⟨sb, hsb⟩ : ∃ s, d.bs.getD i ByteArray.empty = s := ⟨_, rfl⟩
  rw [hsb] at hblk
  have HSB := Lib.hid hsb
  clear h hcv hbv hn hsb
  go_enter Tryz.func252, Tryz.ntmps252
  go_wp2_with fail
  refine (dmay_walk db d _ HH.out).mono ?_
  rintro e w' ⟨rfl, rfl⟩
  rw [hd]
  go_wp2_with fail
  refine (dat_walk db d _ HH.out (i : Int)).mono ?_
  rintro e w' ⟨rfl, rfl⟩
  have hat : (decide ((0 : Int) ≤ (i : Int)) && decide ((i : Int) < (d.bs.length : Int))) = true := by simp; omega
  rw [hat]
  have hi0 : (0 : Int) ≤ (i : Int) := by omega
  have hi1 : (i : Int) < (d.bs.length : Int) := by omega
  clear hat
  go_wp2_with fail
  go_loopw [7] (fun v wr => ∃ k : Nat, k ≤ n ∧ v = .int .i64 ((k : Int) - 1) ∧ lastAt d.cs i n = lastAt d.cs i k ∧ wr = w) (fun v _ => (intOf v + 1).toNat)
  case atStart => exact ⟨n, Nat.le_refl _, rfl, rfl, rfl⟩
  case round =>
    obtain ⟨k, hk, rfl, hla, rfl⟩ := hrel
    have HLA := Lib.hid hla
    clear hla
    cases k with
    | zero =>
      go_wp2_with fail
      go_ret2
      refine ⟨?_, rfl⟩
      have e1 : d.shown i = sb := by
        unfold DiskD.shown
        rw [HN.out, HLA.out, ← HSB.out]
        simp [lastAt]
      rw [e1]
      rfl
    | succ m =>
      have hm : m < d.cs.length := by rw [HN.out]; omega
      obtain ⟨g, c, hv, q0, q1⟩ := HH.out.cached_at hm
      rw [show ((m + 1 : Nat) : Int) - 1 = (m : Int) by omega]
      have c1' : wr.cell? ⟨db, 1, none⟩ = some (.slice (some ⟨g, 0, none⟩) n c) := by rw [← HN.out, ← hv]; exact HH.out.blk.cell (i := 1) rfl
      clear c1 hv
      have hm0 : (0 : Int) ≤ (m : Int) := by omega
      have hm1 : (m : Int) < (n : Int) := by omega
      obtain ⟨pa, ps, hps⟩ : ∃ a s, d.cs.getD m (0, ByteArray.empty) = (a, s) := ⟨_, _, rfl⟩
      rw [hps] at q0 q1
      simp only at q0 q1
      have HPS := Lib.hid hps
      clear hps
      by_cases heq : pa = (i : Int)
      · have HEQ := Lib.hid heq
        go_wp2_with fail
        go_ret2
        refine ⟨?_, rfl⟩
        have e1 : d.shown i = ps := by
          unfold DiskD.shown
          rw [HN.out, HLA.out]
          unfold lastAt
          rw [HPS.out, if_pos HEQ.out]
          rfl
        rw [e1]
        rfl
      · have HEQ := Lib.hid heq
        go_wp2_with fail
        go_roundw
        case rel => exact ⟨m, by omega, by go_num, by rw [HLA.out, lastAt, HPS.out, if_neg HEQ.out], by first | rfl | trivial⟩
        case measure => simp [intOf]; try omega
end Go.Proofs.YtppdboadjefieaaGreat
