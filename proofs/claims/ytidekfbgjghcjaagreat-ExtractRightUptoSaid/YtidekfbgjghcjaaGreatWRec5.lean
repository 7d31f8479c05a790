/- Walks of record.Check, Put and the documents' Right, Put (chapter 19), of any record. -/
import Derived.Test.YtidekfbgjghcjaaGreatG7
import Derived.Test.YtidekfbgjghcjaaGreatG5
import Derived.Test.YtidekfbgjghcjaaGreatG3
import Derived.Deep.RegionHeld3
import Derived.Deep.RegionWith
namespace Go.Proofs.YtidekfbgjghcjaaGreat
set_option linter.unusedSimpArgs false
set_option linter.unusedVariables false
open Go Go.RowKit

theorem check_walk (r : Rec) (w : World) (hname : r.name.size ≤ 1073741824) (hf : Fits r.epoch) :
    Calls Tryz.prog 109 #[r.v] w fun e w' => e = .returned (.int .i64 (chkI r)) ∧ Below w.heap.size w w' := by
  obtain ⟨kind, epoch, time, count, target, till, root, name⟩ := r
  by_cases k1 : kind = 1
  · subst k1; exact check_1 epoch time count target till root name w hname hf
  by_cases k2 : kind = 2
  · subst k2; exact check_2 epoch time count target till root name w hname hf
  by_cases k5 : kind = 5
  · subst k5; exact check_5 epoch time count target till root name w hname hf
  by_cases k3 : kind = 3
  · subst k3; exact check_3 epoch time count target till root name w hname hf
  by_cases k4 : kind = 4
  · subst k4; exact check_4 epoch time count target till root name w hname hf
  exact check_o kind epoch time count target till root name w hname hf k1 k2 k5 k3 k4
theorem right_walk (r : Rec) (w : World) :
    Calls Tryz.prog 98 #[r.v] w fun e w' => e = .returned (.bool (recOk r)) ∧ Below w.heap.size w w' := by
  obtain ⟨kind, epoch, time, count, target, till, root, name⟩ := r
  by_cases k1 : kind = 1
  · subst k1; exact right_1 epoch time count target till root name w
  by_cases k2 : kind = 2
  · subst k2; exact right_2 epoch time count target till root name w
  by_cases k5 : kind = 5
  · subst k5; exact right_5 epoch time count target till root name w
  by_cases k3 : kind = 3
  · subst k3; exact right_3 epoch time count target till root name w
  by_cases k4 : kind = 4
  · subst k4; exact right_4 epoch time count target till root name w
  exact right_o kind epoch time count target till root name w k1 k2 k5 k3 k4
theorem chkI_yes {r : Rec} (h : recOk r = true) : chkI r = 0 := by unfold chkI; rw [h]; rfl
theorem chkI_no {r : Rec} (h : recOk r = false) : chkI r = 2 := by unfold chkI; rw [h]; rfl

def widthsL : List Int := [1, 4, 8, 4, 4, 8]
def Rec.nums (r : Rec) : List Int := [r.kind, r.epoch, r.time, r.count, r.target, r.till]
def recPut (r : Rec) : List UInt8 := packL widthsL r.nums ++ textL r.root.data.toList ++ textL r.name.data.toList

theorem recOk_facts {r : Rec} (h : recOk r = true) : (1 ≤ r.kind ∧ r.kind ≤ 5) ∧ (0 ≤ r.epoch ∧ r.epoch ≤ 4294967295) ∧ (0 ≤ r.time ∧ r.time ≤ 1099511627776) ∧ (0 ≤ r.count ∧ r.count ≤ 4096) ∧ (0 ≤ r.target ∧ r.target ≤ 4294967295) ∧ (0 ≤ r.till ∧ r.till ≤ 1099511627776) ∧ r.root.size ≤ 32 ∧ r.name.size ≤ 16 := by
  obtain ⟨kind, epoch, time, count, target, till, root, name⟩ := r
  have e : name.data.toList.length = name.size := rfl
  simp only [recOk, recKind, nameOk, e, Bool.and_eq_true, decide_eq_true_eq] at h ⊢
  obtain ⟨⟨⟨⟨h1, h2⟩, h3⟩, h4⟩, h5⟩ := h
  split at h5
  · simp only [Bool.and_eq_true, decide_eq_true_eq] at h5; omega
  · split at h5
    · simp only [Bool.and_eq_true, decide_eq_true_eq] at h5; omega
    · split at h5
      · simp only [Bool.and_eq_true, decide_eq_true_eq] at h5; omega
      · split at h5
        · simp only [Bool.and_eq_true, decide_eq_true_eq] at h5; omega
        · simp at h5
theorem recOk_pack {r : Rec} (h : recOk r = true) : PackOk widthsL r.nums := by
  obtain ⟨⟨a1, a2⟩, ⟨b1, b2⟩, ⟨c1, c2⟩, ⟨d1, d2⟩, ⟨e1, e2⟩, ⟨f1, f2⟩, _, _⟩ := recOk_facts h
  refine ⟨rfl, fun i a x ha hx => ?_⟩
  match i, ha, hx with
  | 0, ha, hx => simp [widthsL, Rec.nums] at ha hx; subst ha; subst hx; simp; omega
  | 1, ha, hx => simp [widthsL, Rec.nums] at ha hx; subst ha; subst hx; simp; omega
  | 2, ha, hx => simp [widthsL, Rec.nums] at ha hx; subst ha; subst hx; simp; omega
  | 3, ha, hx => simp [widthsL, Rec.nums] at ha hx; subst ha; subst hx; simp; omega
  | 4, ha, hx => simp [widthsL, Rec.nums] at ha hx; subst ha; subst hx; simp; omega
  | 5, ha, hx => simp [widthsL, Rec.nums] at ha hx; subst ha; subst hx; simp; omega
  | i + 6, ha, hx => simp [widthsL] at ha
theorem packL_length_rec (r : Rec) : (packL widthsL r.nums).length = 29 := by simp [packL, widthsL, Rec.nums, beBytes_length]

theorem widths_walk (w : World) :
    Calls Tryz.prog 213 #[] w fun e w' => ∃ v, e = .returned v ∧ IntRow w' v widthsL ∧ Below w.heap.size w w' := by
  go_enter Tryz.func213, Tryz.ntmps213
  go_wp2_with fail
  go_ret
  exact ⟨_, rfl, IntRow.blk (xs := widthsL) (Blk.new w (widthsL.map (Value.int .i64)) 3) rfl 6, (Below.refl _ _).alloc (Nat.le_refl _) _⟩

def RecPutEnd (r : Rec) (e : Ending) : Prop :=
  (recOk r = true ∧ ∃ q, e = .returned (.tuple #[.string q, .int .i64 0]) ∧ Txt q (recPut r)) ∨ (recOk r = false ∧ e = .returned (.tuple #[.string ⟨#[]⟩, .int .i64 2]))
def RRecPutEnd (r : Rec) (e : Ending) : Prop :=
  (recOk r = true ∧ ∃ q, e = .returned (.tuple #[.string q, .bool true]) ∧ Txt q (recPut r)) ∨ (recOk r = false ∧ e = .returned (.tuple #[.string ⟨#[]⟩, .bool false]))

structure RecAt (w : World) (b : Nat) (r : Rec) : Prop where
  lt : b < w.heap.size
  c0 : w.cell? ⟨b, 0, none⟩ = some (.int .i64 r.kind)
  c1 : w.cell? ⟨b, 1, none⟩ = some (.int .i64 r.epoch)
  c2 : w.cell? ⟨b, 2, none⟩ = some (.int .i64 r.time)
  c3 : w.cell? ⟨b, 3, none⟩ = some (.int .i64 r.count)
  c4 : w.cell? ⟨b, 4, none⟩ = some (.int .i64 r.target)
  c5 : w.cell? ⟨b, 5, none⟩ = some (.int .i64 r.till)
  c6 : w.cell? ⟨b, 6, none⟩ = some (.string r.root)
  c7 : w.cell? ⟨b, 7, none⟩ = some (.string r.name)
theorem RecAt.below {w w' : World} {b : Nat} {r : Rec} (h : RecAt w b r) {B : Nat} (hb : Below B w w') (hB : b < B) : RecAt w' b r :=
  ⟨by have := hb.size; have := h.lt; omega, by rw [hb.cell (by exact hB)]; exact h.c0, by rw [hb.cell (by exact hB)]; exact h.c1, by rw [hb.cell (by exact hB)]; exact h.c2, by rw [hb.cell (by exact hB)]; exact h.c3,
    by rw [hb.cell (by exact hB)]; exact h.c4, by rw [hb.cell (by exact hB)]; exact h.c5, by rw [hb.cell (by exact hB)]; exact h.c6, by rw [hb.cell (by exact hB)]; exact h.c7⟩
theorem RecAt.blk {w : World} {b : Nat} {r : Rec} {t : TypeId} (h : Blk w b r.cells t) : RecAt w b r :=
  ⟨h.lt, h.cell rfl, h.cell rfl, h.cell rfl, h.cell rfl, h.cell rfl, h.cell rfl, h.cell rfl, h.cell rfl⟩
theorem rsizeRec {r : Rec} : (Tryz.prog.info? 25).map (·.size) = some r.cells.length := by kernel_rfl

set_option maxRecDepth 100000 in
set_option maxHeartbeats 2000000 in
theorem recput_walk (r : Rec) (w : World) (hroot : r.root.size ≤ 1048576) (hname : r.name.size ≤ 1048576) (hf : Fits r.epoch) :
    Calls Tryz.prog 165 #[r.v] w fun e w' => RecPutEnd r e ∧ Below w.heap.size w w' := by
  have hname : r.name.size ≤ 1073741824 := by omega
  cases hok : recOk r with
  | false =>
    have HK := Lib.hid hok; clear hok
    go_enter Tryz.func165, Tryz.ntmps165
    go_wp2_with (first
      | ((with_reducible refine wpList_box_new 25 (.tmp 0) r.cells (some 1) ?hgd ?ho ?hd ?hx ?_); (case hgd | ho | hd | hx => rfl); (intro b w0 l0 B0 e0 z0))
      | ((with_reducible refine wpList_load_blk 25 (.tmp 1) b r.cells 25 _ B0 Tryz.underlying25 rfl rsizeRec ?hgd ?ho ?hx ?_); (case hgd | ho | hx => rfl)))
    refine (check_walk r _ hname hf).mono ?_
    rintro e w1 ⟨rfl, hb1⟩
    rw [chkI_no HK.out]
    have hbw1 : Below w.heap.size w w1 := (e0.mono l0).trans (hb1.mono (by omega))
    clear e0 hb1
    go_wp2_with fail
    go_ret2
    exact ⟨.inr ⟨HK.out, rfl⟩, hbw1⟩
  | true =>
    have hpk := recOk_pack hok
    have HK := Lib.hid hok; clear hok
    go_enter Tryz.func165, Tryz.ntmps165
    go_wp2_with (first
      | ((with_reducible refine wpList_box_new 25 (.tmp 0) r.cells (some 1) ?hgd ?ho ?hd ?hx ?_); (case hgd | ho | hd | hx => rfl); (intro b w0 l0 B0 e0 z0))
      | ((with_reducible refine wpList_load_blk 25 (.tmp 1) b r.cells 25 _ B0 Tryz.underlying25 rfl rsizeRec ?hgd ?ho ?hx ?_); (case hgd | ho | hx => rfl)))
    refine (check_walk r _ hname hf).mono ?_
    rintro e w1 ⟨rfl, hb1⟩
    rw [chkI_yes HK.out]
    have R1 := (RecAt.blk B0).below hb1 z0
    have hbw1 : Below w.heap.size w w1 := (e0.mono l0).trans (hb1.mono (by omega))
    have hl1 : w.heap.size ≤ b := l0
    clear e0 hb1 z0 l0 B0
    obtain ⟨kind, epoch, time, count, target, till, root, name⟩ := r
    obtain ⟨r1, c0, c1, c2, c3, c4, c5, c6, c7⟩ := R1
    have HP := Lib.hid hpk; clear hpk
    go_wp2_with fail
    go_region_held3 (fun w' => w'.cell? ⟨b, 0, none⟩ = some (.int .i64 kind) ∧ w'.cell? ⟨b, 1, none⟩ = some (.int .i64 epoch) ∧ w'.cell? ⟨b, 2, none⟩ = some (.int .i64 time) ∧ w'.cell? ⟨b, 3, none⟩ = some (.int .i64 count) ∧ w'.cell? ⟨b, 4, none⟩ = some (.int .i64 target) ∧ w'.cell? ⟨b, 5, none⟩ = some (.int .i64 till)) (go_keep) ((first | (go_at_call 213; refine (widths_walk _).mono ?_; rintro e w2 ⟨v, rfl, hv, hb2⟩; have R2 : RecAt w2 b ⟨kind, epoch, time, count, target, till, root, name⟩ := (by first | exact (RecAt.mk r1 c0 c1 c2 c3 c4 c5 c6 c7 : RecAt w1 b ⟨kind, epoch, time, count, target, till, root, name⟩).below ((Below.refl _ _).drew.trans hb2) r1 | exact (RecAt.mk r1 c0 c1 c2 c3 c4 c5 c6 c7 : RecAt w1 b ⟨kind, epoch, time, count, target, till, root, name⟩).below (((Below.refl _ _).alloc (Nat.le_refl _) _).drew.trans (hb2.mono (by simp))) r1); obtain ⟨r2, p0, p1, p2, p3, p4, p5, p6, p7⟩ := R2) | (go_at_call 212; refine (opack_walk v _ widthsL [kind, epoch, time, count, target, till] _ (by first | exact hv.below ((Below.refl _ _).alloc (Nat.le_refl _) _) (Nat.le_refl _) | exact hv) (by first | exact IntRow.blk (xs := [kind, epoch, time, count, target, till]) (Blk.new w2 [.int .i64 kind, .int .i64 epoch, .int .i64 time, .int .i64 count, .int .i64 target, .int .i64 till] _) rfl 6 | exact (IntRow.blk (xs := [kind, epoch, time, count, target, till]) (Blk.drew (Blk.new w1 [.int .i64 kind, .int .i64 epoch, .int .i64 time, .int .i64 count, .int .i64 target, .int .i64 till] _)) rfl 6).below hb2 (Nat.le_refl _)) (by simp) (by simp) (by exact HP.out)).mono ?_; rintro e w3 ⟨q, rfl, tq, hb3⟩; have R3 : RecAt w3 b ⟨kind, epoch, time, count, target, till, root, name⟩ := (by first | exact (RecAt.mk r2 p0 p1 p2 p3 p4 p5 p6 p7 : RecAt w2 b ⟨kind, epoch, time, count, target, till, root, name⟩).below (((Below.refl _ _).alloc (Nat.le_refl _) _).trans (hb3.mono (by simp))) r2 | exact (RecAt.mk r2 p0 p1 p2 p3 p4 p5 p6 p7 : RecAt w2 b ⟨kind, epoch, time, count, target, till, root, name⟩).below hb3 r2); have hbb : Below w1.heap.size w1 w3 := (by first | exact (Below.refl _ _).drew.trans (hb2.trans (((Below.refl w2.heap.size w2).alloc (Nat.le_refl _) _).trans (hb3.mono (by simp)) |>.mono hb2.size)) | exact ((Below.refl w1.heap.size w1).alloc (Nat.le_refl _) _).drew.trans ((hb2.trans (hb3.mono hb2.size)).mono (by simp))); obtain ⟨r3, s0, s1, s2, s3, s4, s5, s6, s7⟩ := R3; clear p0 p1 p2 p3 p4 p5 p6 p7 c0 c1 c2 c3 c4 c5 c6 c7) | fail))
    all_goals
      clear s0 s1 s2 s3 s4 s5
      have hl32 := (recOk_facts HK.out).2.2.2.2.2.2
      have hr32 : root.size ≤ 32 := hl32.1
      have hn16 : name.size ≤ 16 := hl32.2
      have sq : q.size ≤ 29 := by rw [tq.size]; exact Nat.le_of_eq (packL_length_rec ⟨kind, epoch, time, count, target, till, root, name⟩)
      clear hl32
      go_wp2_with fail
      go_region_with ((first | (go_at_call_of 214 (Value.string root); refine (otext_walk root _ (by omega)).mono ?_; rintro e wA ⟨x, rfl, tx, hbA⟩; have ltA : b < wA.heap.size := (by first | exact Nat.lt_of_lt_of_le r3 hbA.size | exact Nat.lt_of_lt_of_le ltB hbA.size); have a6A := hbA.cell (p := ⟨b, 6, none⟩) (by first | exact r3 | exact ltB); have a7A := hbA.cell (p := ⟨b, 7, none⟩) (by first | exact r3 | exact ltB); have sA : x.size ≤ 36 := (by rw [tx.size, textL_length]; have e : root.data.toList.length = root.size := rfl; omega)) | (go_at_call_of 214 (Value.string name); refine (otext_walk name _ (by omega)).mono ?_; rintro e wB ⟨y, rfl, ty, hbB⟩; have ltB : b < wB.heap.size := (by first | exact Nat.lt_of_lt_of_le r3 hbB.size | exact Nat.lt_of_lt_of_le ltA hbB.size); have a6B := hbB.cell (p := ⟨b, 6, none⟩) (by first | exact r3 | exact ltA); have a7B := hbB.cell (p := ⟨b, 7, none⟩) (by first | exact r3 | exact ltA); have sB : y.size ≤ 36 := (by rw [ty.size, textL_length]; have e : name.data.toList.length = name.size := rfl; omega))))
      all_goals go_wp2_with fail
      all_goals go_ret2
      all_goals refine ⟨.inl ⟨HK.out, _, rfl, (tq.append tx).append ty⟩, ?_⟩
      all_goals (have hz3 := hbb.size; have hz1 := hbw1.size)
      all_goals first
        | exact hbw1.trans ((hbb.trans ((Below.refl w3.heap.size w3).drew.trans (hbA.trans (hbB.mono hbA.size)) |>.mono hbb.size)).mono hz1)
        | exact hbw1.trans ((hbb.trans ((Below.refl w3.heap.size w3).drew.trans (hbB.trans (hbA.mono hbB.size)) |>.mono hbb.size)).mono hz1)

set_option maxRecDepth 100000 in
set_option maxHeartbeats 2000000 in
theorem rrecput_walk (r : Rec) (w : World) (hroot : r.root.size ≤ 1048576) (hname : r.name.size ≤ 1048576) (hf : Fits r.epoch) :
    Calls Tryz.prog 54 #[r.v] w fun e w' => RRecPutEnd r e ∧ Below w.heap.size w w' := by
  have hname : r.name.size ≤ 1073741824 := by omega
  cases hok : recOk r with
  | false =>
    have HK := Lib.hid hok; clear hok
    go_enter Tryz.func54, Tryz.ntmps54
    go_wp2_with (first
      | ((with_reducible refine wpList_box_new 25 (.tmp 0) r.cells (some 1) ?hgd ?ho ?hd ?hx ?_); (case hgd | ho | hd | hx => rfl); (intro b w0 l0 B0 e0 z0))
      | ((with_reducible refine wpList_load_blk 25 (.tmp 1) b r.cells 25 _ B0 Tryz.underlying25 rfl rsizeRec ?hgd ?ho ?hx ?_); (case hgd | ho | hx => rfl)))
    refine (right_walk r _).mono ?_
    rintro e w1 ⟨rfl, hb1⟩
    rw [HK.out]
    have hbw1 : Below w.heap.size w w1 := (e0.mono l0).trans (hb1.mono (by omega))
    clear e0 hb1
    go_wp2_with fail
    go_ret2
    exact ⟨.inr ⟨HK.out, rfl⟩, hbw1⟩
  | true =>
    have hpk := recOk_pack hok
    have HK := Lib.hid hok; clear hok
    go_enter Tryz.func54, Tryz.ntmps54
    go_wp2_with (first
      | ((with_reducible refine wpList_box_new 25 (.tmp 0) r.cells (some 1) ?hgd ?ho ?hd ?hx ?_); (case hgd | ho | hd | hx => rfl); (intro b w0 l0 B0 e0 z0))
      | ((with_reducible refine wpList_load_blk 25 (.tmp 1) b r.cells 25 _ B0 Tryz.underlying25 rfl rsizeRec ?hgd ?ho ?hx ?_); (case hgd | ho | hx => rfl)))
    refine (right_walk r _).mono ?_
    rintro e w1 ⟨rfl, hb1⟩
    rw [HK.out]
    have R1 := (RecAt.blk B0).below hb1 z0
    have hbw1 : Below w.heap.size w w1 := (e0.mono l0).trans (hb1.mono (by omega))
    have hl1 : w.heap.size ≤ b := l0
    clear e0 hb1 z0 l0 B0
    obtain ⟨kind, epoch, time, count, target, till, root, name⟩ := r
    obtain ⟨r1, c0, c1, c2, c3, c4, c5, c6, c7⟩ := R1
    have HP := Lib.hid hpk; clear hpk
    go_wp2_with fail
    refine (rpack_walk _ _ widthsL [kind, epoch, time, count, target, till] _ (by exact (IntRow.blk (xs := widthsL) (Blk.new w1 (widthsL.map (Value.int .i64)) 3) rfl 6).below ((Below.refl _ _).alloc (Nat.le_refl _) _) (Nat.le_refl _)) (by have := IntRow.blk (xs := [kind, epoch, time, count, target, till]) (Blk.new (w1.alloc (.cells #[.int .i64 1, .int .i64 4, .int .i64 8, .int .i64 4, .int .i64 4, .int .i64 8] 3)) [.int .i64 kind, .int .i64 epoch, .int .i64 time, .int .i64 count, .int .i64 target, .int .i64 till] 3) rfl 6; simpa using this) (by simp) (by simp) (by exact HP.out)).mono ?_
    rintro e w3 ⟨q, rfl, tq, hb3⟩
    have hbb : Below w1.heap.size w1 w3 := (((Below.refl w1.heap.size w1).alloc (Nat.le_refl _) _).alloc (by simp) _).trans (hb3.mono (by simp; omega))
    have R3 : RecAt w3 b ⟨kind, epoch, time, count, target, till, root, name⟩ := (RecAt.mk r1 c0 c1 c2 c3 c4 c5 c6 c7 : RecAt w1 b ⟨kind, epoch, time, count, target, till, root, name⟩).below hbb r1
    obtain ⟨r3, s0, s1, s2, s3, s4, s5, s6, s7⟩ := R3
    clear c0 c1 c2 c3 c4 c5 c6 c7 hb3
    clear s0 s1 s2 s3 s4 s5
    have hl32 := (recOk_facts HK.out).2.2.2.2.2.2
    have hr32 : root.size ≤ 32 := hl32.1
    have hn16 : name.size ≤ 16 := hl32.2
    have sq : q.size ≤ 29 := by rw [tq.size]; exact Nat.le_of_eq (packL_length_rec ⟨kind, epoch, time, count, target, till, root, name⟩)
    clear hl32
    go_wp2_with fail
    go_region_with ((first | (go_at_call_of 57 (Value.string root); refine (rtext01_walk root _ (by omega)).mono ?_; rintro e wA ⟨x, rfl, tx, hbA⟩; have ltA : b < wA.heap.size := (by first | exact Nat.lt_of_lt_of_le r3 hbA.size | exact Nat.lt_of_lt_of_le ltB hbA.size); have a6A := hbA.cell (p := ⟨b, 6, none⟩) (by first | exact r3 | exact ltB); have a7A := hbA.cell (p := ⟨b, 7, none⟩) (by first | exact r3 | exact ltB); have sA : x.size ≤ 36 := (by rw [tx.size, textL_length]; have e : root.data.toList.length = root.size := rfl; omega)) | (go_at_call_of 57 (Value.string name); refine (rtext01_walk name _ (by omega)).mono ?_; rintro e wB ⟨y, rfl, ty, hbB⟩; have ltB : b < wB.heap.size := (by first | exact Nat.lt_of_lt_of_le r3 hbB.size | exact Nat.lt_of_lt_of_le ltA hbB.size); have a6B := hbB.cell (p := ⟨b, 6, none⟩) (by first | exact r3 | exact ltA); have a7B := hbB.cell (p := ⟨b, 7, none⟩) (by first | exact r3 | exact ltA); have sB : y.size ≤ 36 := (by rw [ty.size, textL_length]; have e : name.data.toList.length = name.size := rfl; omega))))
    all_goals go_wp2_with fail
    all_goals go_ret2
    all_goals refine ⟨.inl ⟨HK.out, _, rfl, (tq.append tx).append ty⟩, ?_⟩
    all_goals (have hz3 := hbb.size; have hz1 := hbw1.size)
    all_goals first
      | exact hbw1.trans ((hbb.trans ((Below.refl w3.heap.size w3).drew.trans (hbA.trans (hbB.mono hbA.size)) |>.mono hbb.size)).mono hz1)
      | exact hbw1.trans ((hbb.trans ((Below.refl w3.heap.size w3).drew.trans (hbB.trans (hbA.mono hbB.size)) |>.mono hbb.size)).mono hz1)
end Go.Proofs.YtidekfbgjghcjaaGreat

