/- Walk of the documents' Right (chapter 19). Walk of record.Check. Walks of the documents' Ints, Bytes (chapter 01) and Join (chapter 02): rows of numbers and texts that came in. Walks of octet.Pack and the documents' Pack, where all numbers fit. -/
import Derived.Test.YtppdboadjefieaaGreatG6
import Derived.Test.YtppdboadjefieaaGreatG3
import Derived.Test.YtppdboadjefieaaGreatG4
import Derived.Test.YtppdboadjefieaaGreatG1
import Derived.OwnWalk
import Derived.RegionTactic
import Derived.ChangeAlike
import Derived.Deep.QuietTactic
import Derived.BigQuiet
import Derived.Deep.RegionHeld3
namespace Go.Proofs.YtppdboadjefieaaGreat
set_option linter.unusedSimpArgs false
set_option linter.unusedVariables false
open Go Go.RowKit
set_option linter.unusedVariables false

set_option maxRecDepth 100000 in
set_option maxHeartbeats 4000000 in
theorem right_1 (epoch time count target till : Int) (root name : ByteArray) (w : World) :
    Calls Tryz.prog 428 #[.agg #[.int .i64 1, .int .i64 epoch, .int .i64 time, .int .i64 count, .int .i64 target, .int .i64 till, .string root, .string name]] w
      fun e w' => e = .returned (.bool (recOk ⟨1, epoch, time, count, target, till, root, name⟩)) ∧ Below w.heap.size w w' := by
  have z1 := isEmpty_size root
  have z2 := isEmpty_size name
  go_enter Tryz.func428, Tryz.ntmps428
  go_wp2_with (go_at_call 402; refine (rname_walk _ _).mono ?_; rintro e w1 ⟨rfl, rfl⟩)
  all_goals go_ret
  all_goals refine ⟨ret_b ?_, (Below.refl _ _).alloc (Nat.le_refl _) _⟩
  all_goals first
    | (simp [recOk, recKind]; omega)
    | (simp [recOk, recKind, *]; done)
    | (rw [isEmpty_size]; simp [recOk, recKind]; omega)
    | (rw [isEmpty_size]; simp [recOk, recKind, *]; done)
    | (rw [Bool.eq_iff_iff]; simp [recOk, recKind]; omega)
    | (rw [Bool.eq_iff_iff]; simp [recOk, recKind, *]; omega)
    | (rw [Bool.eq_iff_iff]; simp [recOk, recKind, *]; done)

set_option maxRecDepth 100000 in
set_option maxHeartbeats 4000000 in
theorem right_2 (epoch time count target till : Int) (root name : ByteArray) (w : World) :
    Calls Tryz.prog 428 #[.agg #[.int .i64 2, .int .i64 epoch, .int .i64 time, .int .i64 count, .int .i64 target, .int .i64 till, .string root, .string name]] w
      fun e w' => e = .returned (.bool (recOk ⟨2, epoch, time, count, target, till, root, name⟩)) ∧ Below w.heap.size w w' := by
  have z1 := isEmpty_size root
  have z2 := isEmpty_size name
  go_enter Tryz.func428, Tryz.ntmps428
  go_wp2_with (go_at_call 402; refine (rname_walk _ _).mono ?_; rintro e w1 ⟨rfl, rfl⟩)
  all_goals go_ret
  all_goals refine ⟨ret_b ?_, (Below.refl _ _).alloc (Nat.le_refl _) _⟩
  all_goals first
    | (simp [recOk, recKind]; omega)
    | (simp [recOk, recKind, *]; done)
    | (rw [isEmpty_size]; simp [recOk, recKind]; omega)
    | (rw [isEmpty_size]; simp [recOk, recKind, *]; done)
    | (rw [Bool.eq_iff_iff]; simp [recOk, recKind]; omega)
    | (rw [Bool.eq_iff_iff]; simp [recOk, recKind, *]; omega)
    | (rw [Bool.eq_iff_iff]; simp [recOk, recKind, *]; done)

set_option maxRecDepth 100000 in
set_option maxHeartbeats 4000000 in
theorem right_5 (epoch time count target till : Int) (root name : ByteArray) (w : World) :
    Calls Tryz.prog 428 #[.agg #[.int .i64 5, .int .i64 epoch, .int .i64 time, .int .i64 count, .int .i64 target, .int .i64 till, .string root, .string name]] w
      fun e w' => e = .returned (.bool (recOk ⟨5, epoch, time, count, target, till, root, name⟩)) ∧ Below w.heap.size w w' := by
  have z1 := isEmpty_size root
  have z2 := isEmpty_size name
  go_enter Tryz.func428, Tryz.ntmps428
  go_wp2_with (go_at_call 402; refine (rname_walk _ _).mono ?_; rintro e w1 ⟨rfl, rfl⟩)
  all_goals go_ret
  all_goals refine ⟨ret_b ?_, (Below.refl _ _).alloc (Nat.le_refl _) _⟩
  all_goals first
    | (simp [recOk, recKind]; omega)
    | (simp [recOk, recKind, *]; done)
    | (rw [isEmpty_size]; simp [recOk, recKind]; omega)
    | (rw [isEmpty_size]; simp [recOk, recKind, *]; done)
    | (rw [Bool.eq_iff_iff]; simp [recOk, recKind]; omega)
    | (rw [Bool.eq_iff_iff]; simp [recOk, recKind, *]; omega)
    | (rw [Bool.eq_iff_iff]; simp [recOk, recKind, *]; done)

set_option maxRecDepth 100000 in
set_option maxHeartbeats 4000000 in
theorem right_3 (epoch time count target till : Int) (root name : ByteArray) (w : World) :
    Calls Tryz.prog 428 #[.agg #[.int .i64 3, .int .i64 epoch, .int .i64 time, .int .i64 count, .int .i64 target, .int .i64 till, .string root, .string name]] w
      fun e w' => e = .returned (.bool (recOk ⟨3, epoch, time, count, target, till, root, name⟩)) ∧ Below w.heap.size w w' := by
  have z1 := isEmpty_size root
  have z2 := isEmpty_size name
  go_enter Tryz.func428, Tryz.ntmps428
  go_wp2_with (go_at_call 402; refine (rname_walk _ _).mono ?_; rintro e w1 ⟨rfl, rfl⟩)
  all_goals go_ret
  all_goals refine ⟨ret_b ?_, (Below.refl _ _).alloc (Nat.le_refl _) _⟩
  all_goals first
    | (simp [recOk, recKind]; omega)
    | (simp [recOk, recKind, *]; done)
    | (rw [isEmpty_size]; simp [recOk, recKind]; omega)
    | (rw [isEmpty_size]; simp [recOk, recKind, *]; done)
    | (rw [Bool.eq_iff_iff]; simp [recOk, recKind]; omega)
    | (rw [Bool.eq_iff_iff]; simp [recOk, recKind, *]; omega)
    | (rw [Bool.eq_iff_iff]; simp [recOk, recKind, *]; done)

set_option maxRecDepth 100000 in
set_option maxHeartbeats 4000000 in
theorem right_4 (epoch time count target till : Int) (root name : ByteArray) (w : World) :
    Calls Tryz.prog 428 #[.agg #[.int .i64 4, .int .i64 epoch, .int .i64 time, .int .i64 count, .int .i64 target, .int .i64 till, .string root, .string name]] w
      fun e w' => e = .returned (.bool (recOk ⟨4, epoch, time, count, target, till, root, name⟩)) ∧ Below w.heap.size w w' := by
  have z1 := isEmpty_size root
  have z2 := isEmpty_size name
  go_enter Tryz.func428, Tryz.ntmps428
  go_wp2_with (go_at_call 402; refine (rname_walk _ _).mono ?_; rintro e w1 ⟨rfl, rfl⟩)
  all_goals go_ret
  all_goals refine ⟨ret_b ?_, (Below.refl _ _).alloc (Nat.le_refl _) _⟩
  all_goals first
    | (simp [recOk, recKind]; omega)
    | (simp [recOk, recKind, *]; done)
    | (rw [isEmpty_size]; simp [recOk, recKind]; omega)
    | (rw [isEmpty_size]; simp [recOk, recKind, *]; done)
    | (rw [Bool.eq_iff_iff]; simp [recOk, recKind]; omega)
    | (rw [Bool.eq_iff_iff]; simp [recOk, recKind, *]; omega)
    | (rw [Bool.eq_iff_iff]; simp [recOk, recKind, *]; done)

set_option maxRecDepth 100000 in
set_option maxHeartbeats 4000000 in
theorem right_o (kind epoch time count target till : Int) (root name : ByteArray) (w : World) (k1 : ¬ kind = 1) (k2 : ¬ kind = 2) (k5 : ¬ kind = 5) (k3 : ¬ kind = 3) (k4 : ¬ kind = 4) :
    Calls Tryz.prog 428 #[.agg #[.int .i64 kind, .int .i64 epoch, .int .i64 time, .int .i64 count, .int .i64 target, .int .i64 till, .string root, .string name]] w
      fun e w' => e = .returned (.bool (recOk ⟨kind, epoch, time, count, target, till, root, name⟩)) ∧ Below w.heap.size w w' := by
  have z1 := isEmpty_size root
  have z2 := isEmpty_size name
  go_enter Tryz.func428, Tryz.ntmps428
  go_wp2_with (go_at_call 402; refine (rname_walk _ _).mono ?_; rintro e w1 ⟨rfl, rfl⟩)
  all_goals go_ret
  all_goals refine ⟨ret_b ?_, (Below.refl _ _).alloc (Nat.le_refl _) _⟩
  all_goals first
    | (simp [recOk, recKind]; omega)
    | (simp [recOk, recKind, *]; done)
    | (rw [isEmpty_size]; simp [recOk, recKind]; omega)
    | (rw [isEmpty_size]; simp [recOk, recKind, *]; done)
    | (rw [Bool.eq_iff_iff]; simp [recOk, recKind]; omega)
    | (rw [Bool.eq_iff_iff]; simp [recOk, recKind, *]; omega)
    | (rw [Bool.eq_iff_iff]; simp [recOk, recKind, *]; done)
end Go.Proofs.YtppdboadjefieaaGreat
namespace Go.Proofs.YtppdboadjefieaaGreat
set_option linter.unusedSimpArgs false
set_option linter.unusedVariables false
open Go Go.RowKit
set_option linter.unusedVariables false

def chkI (r : Rec) : Int := if recOk r then 0 else 2
theorem chk_no {r : Rec} (h : recOk r = false) : (2 : Int) = chkI r := by unfold chkI; rw [h]; rfl
theorem chk_yes {r : Rec} (h : recOk r = true) : (0 : Int) = chkI r := by unfold chkI; rw [h]; rfl
theorem size_empty (s : ByteArray) : s = ByteArray.empty ↔ s.size = 0 := by
  constructor
  · rintro rfl; rfl
  · intro h
    have : s.data.toList = [] := List.eq_nil_of_length_eq_zero h
    exact (Txt.self s).eq (show Txt ByteArray.empty s.data.toList by rw [this]; rfl)
theorem bcell {W w1 : World} (hb : Below W.heap.size W w1) : (∀ b o, b < W.heap.size → w1.cell? ⟨b, o, none⟩ = W.cell? ⟨b, o, none⟩) ∧ (∀ b o, b < W.heap.size → w1.frozen? ⟨b, o, none⟩ = W.frozen? ⟨b, o, none⟩) :=
  ⟨fun b o h => hb.cell (p := ⟨b, o, none⟩) h, fun b o h => hb.frozen (p := ⟨b, o, none⟩) h⟩

set_option maxRecDepth 100000 in
set_option maxHeartbeats 4000000 in
theorem check_1 (epoch time count target till : Int) (root name : ByteArray) (w : World) (hname : name.size ≤ 1073741824) (hf : Fits epoch) :
    Calls Tryz.prog 228 #[.agg #[.int .i64 1, .int .i64 epoch, .int .i64 time, .int .i64 count, .int .i64 target, .int .i64 till, .string root, .string name]] w
      fun e w' => e = .returned (.int .i64 (chkI ⟨1, epoch, time, count, target, till, root, name⟩)) ∧ Below w.heap.size w w' := by
  have z1 := isEmpty_size root
  have z2 := isEmpty_size name
  obtain ⟨E1, hE1⟩ : ∃ E1 : Int, wrap64 (epoch - 1) = E1 := ⟨_, rfl⟩
  have hE2 : epoch = -9223372036854775808 ∨ E1 = epoch - 1 := by
    by_cases h : epoch = -9223372036854775808
    · exact .inl h
    · rw [← hE1, IntWalk.wrap64_in _ (by have := hf.1; have := hf.2; omega)]; exact .inr rfl
  have HE1 := Lib.hid hE1; clear hE1
  have HE2 := Lib.hid hE2; clear hE2
  obtain ⟨B, hB⟩ : ∃ B : Bool, ((decide (0 ≤ count) && decide (count ≤ 4096)) && decide (root.size = 32)) = B := ⟨_, rfl⟩
  obtain ⟨nk, hn⟩ : ∃ b : Bool, nameOk name.data.toList = b := ⟨_, rfl⟩
  have HB := Lib.hid hB; clear hB
  have HN := Lib.hid hn; clear hn
  cases B
  all_goals
    go_enter Tryz.func228, Tryz.ntmps228
    go_wp2_with fail
    refine (rest_1 epoch time count target till root name _ hname E1 HE1.out).mono ?_
    rintro e w1 ⟨rfl, hb1⟩
    rw [HB.out]
    have hz : w.heap.size < w1.heap.size := by have := hb1.size; simp at this; omega
    have hz2 : ¬ w.heap.size = w1.heap.size := by omega
    have q1 : w1.cell? ⟨w.heap.size, 1, none⟩ = some (.int .i64 epoch) := by rw [hb1.cell (by simp)]; simp
    have q2 : w1.cell? ⟨w.heap.size, 2, none⟩ = some (.int .i64 time) := by rw [hb1.cell (by simp)]; simp
    have Hb := Lib.hid hb1; clear hb1
    go_wp2_with (go_at_call 315; refine (within_walk _ _ _).mono ?_; rintro e w1 ⟨rfl, rfl⟩)
    all_goals go_ret
    all_goals refine ⟨ret_i ?_, ?_⟩
    all_goals first
      | (have hb' := Hb.out; refine ((Below.refl w.heap.size w).alloc (Nat.le_refl _) _).trans (hb'.mono (by simp)) |>.alloc ?_ _; have := hb'.size; simp at this ⊢; omega)
      | skip
    all_goals
      have hb := HB.out
      have hn := HN.out
      have he2 := HE2.out
      try simp only [size_empty, Bool.not_eq_true', Bool.not_eq_false', Bool.and_eq_true, Bool.and_eq_false_iff, decide_eq_false_iff_not, decide_eq_true_eq] at *
      first
      | (refine chk_no ?_; clear hb hn he2 HB HN HE1 HE2; simp [recOk, recKind, *]; done)
      | (refine chk_no ?_; cases nk <;> simp [recOk, recKind, hn] at hb ⊢ <;> simp only [size_empty] at * <;> omega)
      | (refine chk_yes ?_; cases nk <;> simp [recOk, recKind, hn] at hb ⊢ <;> simp only [size_empty] at * <;> omega)
      | (refine chk_no ?_; cases nk <;> simp_all [recOk, recKind] <;> (try simp only [size_empty] at *) <;> omega)
      | (refine chk_yes ?_; cases nk <;> simp_all [recOk, recKind] <;> (try simp only [size_empty] at *) <;> omega)
      | (refine chk_no ?_; cases nk <;> simp_all [recOk, recKind]; done)
      | (refine chk_yes ?_; cases nk <;> simp_all [recOk, recKind]; done)

set_option maxRecDepth 100000 in
set_option maxHeartbeats 4000000 in
theorem check_2 (epoch time count target till : Int) (root name : ByteArray) (w : World) (hname : name.size ≤ 1073741824) (hf : Fits epoch) :
    Calls Tryz.prog 228 #[.agg #[.int .i64 2, .int .i64 epoch, .int .i64 time, .int .i64 count, .int .i64 target, .int .i64 till, .string root, .string name]] w
      fun e w' => e = .returned (.int .i64 (chkI ⟨2, epoch, time, count, target, till, root, name⟩)) ∧ Below w.heap.size w w' := by
  have z1 := isEmpty_size root
  have z2 := isEmpty_size name
  obtain ⟨E1, hE1⟩ : ∃ E1 : Int, wrap64 (epoch - 1) = E1 := ⟨_, rfl⟩
  have hE2 : epoch = -9223372036854775808 ∨ E1 = epoch - 1 := by
    by_cases h : epoch = -9223372036854775808
    · exact .inl h
    · rw [← hE1, IntWalk.wrap64_in _ (by have := hf.1; have := hf.2; omega)]; exact .inr rfl
  have HE1 := Lib.hid hE1; clear hE1
  have HE2 := Lib.hid hE2; clear hE2
  obtain ⟨B, hB⟩ : ∃ B : Bool, ((decide (0 ≤ till) && decide (till ≤ 1099511627776)) && (decide (0 ≤ target) && decide (target ≤ E1))) = B := ⟨_, rfl⟩
  obtain ⟨nk, hn⟩ : ∃ b : Bool, nameOk name.data.toList = b := ⟨_, rfl⟩
  have HB := Lib.hid hB; clear hB
  have HN := Lib.hid hn; clear hn
  cases B
  all_goals
    go_enter Tryz.func228, Tryz.ntmps228
    go_wp2_with fail
    refine (rest_2 epoch time count target till root name _ hname E1 HE1.out).mono ?_
    rintro e w1 ⟨rfl, hb1⟩
    rw [HB.out]
    have hz : w.heap.size < w1.heap.size := by have := hb1.size; simp at this; omega
    have hz2 : ¬ w.heap.size = w1.heap.size := by omega
    have q1 : w1.cell? ⟨w.heap.size, 1, none⟩ = some (.int .i64 epoch) := by rw [hb1.cell (by simp)]; simp
    have q2 : w1.cell? ⟨w.heap.size, 2, none⟩ = some (.int .i64 time) := by rw [hb1.cell (by simp)]; simp
    have Hb := Lib.hid hb1; clear hb1
    go_wp2_with (go_at_call 315; refine (within_walk _ _ _).mono ?_; rintro e w1 ⟨rfl, rfl⟩)
    all_goals go_ret
    all_goals refine ⟨ret_i ?_, ?_⟩
    all_goals first
      | (have hb' := Hb.out; refine ((Below.refl w.heap.size w).alloc (Nat.le_refl _) _).trans (hb'.mono (by simp)) |>.alloc ?_ _; have := hb'.size; simp at this ⊢; omega)
      | skip
    all_goals
      have hb := HB.out
      have hn := HN.out
      have he2 := HE2.out
      try simp only [size_empty, Bool.not_eq_true', Bool.not_eq_false', Bool.and_eq_true, Bool.and_eq_false_iff, decide_eq_false_iff_not, decide_eq_true_eq] at *
      first
      | (refine chk_no ?_; clear hb hn he2 HB HN HE1 HE2; simp [recOk, recKind, *]; done)
      | (refine chk_no ?_; cases nk <;> simp [recOk, recKind, hn] at hb ⊢ <;> simp only [size_empty] at * <;> omega)
      | (refine chk_yes ?_; cases nk <;> simp [recOk, recKind, hn] at hb ⊢ <;> simp only [size_empty] at * <;> omega)
      | (refine chk_no ?_; cases nk <;> simp_all [recOk, recKind] <;> (try simp only [size_empty] at *) <;> omega)
      | (refine chk_yes ?_; cases nk <;> simp_all [recOk, recKind] <;> (try simp only [size_empty] at *) <;> omega)
      | (refine chk_no ?_; cases nk <;> simp_all [recOk, recKind]; done)
      | (refine chk_yes ?_; cases nk <;> simp_all [recOk, recKind]; done)

set_option maxRecDepth 100000 in
set_option maxHeartbeats 4000000 in
theorem check_5 (epoch time count target till : Int) (root name : ByteArray) (w : World) (hname : name.size ≤ 1073741824) (hf : Fits epoch) :
    Calls Tryz.prog 228 #[.agg #[.int .i64 5, .int .i64 epoch, .int .i64 time, .int .i64 count, .int .i64 target, .int .i64 till, .string root, .string name]] w
      fun e w' => e = .returned (.int .i64 (chkI ⟨5, epoch, time, count, target, till, root, name⟩)) ∧ Below w.heap.size w w' := by
  have z1 := isEmpty_size root
  have z2 := isEmpty_size name
  obtain ⟨E1, hE1⟩ : ∃ E1 : Int, wrap64 (epoch - 1) = E1 := ⟨_, rfl⟩
  have hE2 : epoch = -9223372036854775808 ∨ E1 = epoch - 1 := by
    by_cases h : epoch = -9223372036854775808
    · exact .inl h
    · rw [← hE1, IntWalk.wrap64_in _ (by have := hf.1; have := hf.2; omega)]; exact .inr rfl
  have HE1 := Lib.hid hE1; clear hE1
  have HE2 := Lib.hid hE2; clear hE2
  obtain ⟨B, hB⟩ : ∃ B : Bool, ((decide (0 ≤ till) && decide (till ≤ 1099511627776)) && (decide (0 ≤ target) && decide (target ≤ E1))) = B := ⟨_, rfl⟩
  obtain ⟨nk, hn⟩ : ∃ b : Bool, nameOk name.data.toList = b := ⟨_, rfl⟩
  have HB := Lib.hid hB; clear hB
  have HN := Lib.hid hn; clear hn
  cases B
  all_goals
    go_enter Tryz.func228, Tryz.ntmps228
    go_wp2_with fail
    refine (rest_5 epoch time count target till root name _ hname E1 HE1.out).mono ?_
    rintro e w1 ⟨rfl, hb1⟩
    rw [HB.out]
    have hz : w.heap.size < w1.heap.size := by have := hb1.size; simp at this; omega
    have hz2 : ¬ w.heap.size = w1.heap.size := by omega
    have q1 : w1.cell? ⟨w.heap.size, 1, none⟩ = some (.int .i64 epoch) := by rw [hb1.cell (by simp)]; simp
    have q2 : w1.cell? ⟨w.heap.size, 2, none⟩ = some (.int .i64 time) := by rw [hb1.cell (by simp)]; simp
    have Hb := Lib.hid hb1; clear hb1
    go_wp2_with (go_at_call 315; refine (within_walk _ _ _).mono ?_; rintro e w1 ⟨rfl, rfl⟩)
    all_goals go_ret
    all_goals refine ⟨ret_i ?_, ?_⟩
    all_goals first
      | (have hb' := Hb.out; refine ((Below.refl w.heap.size w).alloc (Nat.le_refl _) _).trans (hb'.mono (by simp)) |>.alloc ?_ _; have := hb'.size; simp at this ⊢; omega)
      | skip
    all_goals
      have hb := HB.out
      have hn := HN.out
      have he2 := HE2.out
      try simp only [size_empty, Bool.not_eq_true', Bool.not_eq_false', Bool.and_eq_true, Bool.and_eq_false_iff, decide_eq_false_iff_not, decide_eq_true_eq] at *
      first
      | (refine chk_no ?_; clear hb hn he2 HB HN HE1 HE2; simp [recOk, recKind, *]; done)
      | (refine chk_no ?_; cases nk <;> simp [recOk, recKind, hn] at hb ⊢ <;> simp only [size_empty] at * <;> omega)
      | (refine chk_yes ?_; cases nk <;> simp [recOk, recKind, hn] at hb ⊢ <;> simp only [size_empty] at * <;> omega)
      | (refine chk_no ?_; cases nk <;> simp_all [recOk, recKind] <;> (try simp only [size_empty] at *) <;> omega)
      | (refine chk_yes ?_; cases nk <;> simp_all [recOk, recKind] <;> (try simp only [size_empty] at *) <;> omega)
      | (refine chk_no ?_; cases nk <;> simp_all [recOk, recKind]; done)
      | (refine chk_yes ?_; cases nk <;> simp_all [recOk, recKind]; done)

set_option maxRecDepth 100000 in
set_option maxHeartbeats 4000000 in
theorem check_3 (epoch time count target till : Int) (root name : ByteArray) (w : World) (hname : name.size ≤ 1073741824) (hf : Fits epoch) :
    Calls Tryz.prog 228 #[.agg #[.int .i64 3, .int .i64 epoch, .int .i64 time, .int .i64 count, .int .i64 target, .int .i64 till, .string root, .string name]] w
      fun e w' => e = .returned (.int .i64 (chkI ⟨3, epoch, time, count, target, till, root, name⟩)) ∧ Below w.heap.size w w' := by
  have z1 := isEmpty_size root
  have z2 := isEmpty_size name
  obtain ⟨E1, hE1⟩ : ∃ E1 : Int, wrap64 (epoch - 1) = E1 := ⟨_, rfl⟩
  have hE2 : epoch = -9223372036854775808 ∨ E1 = epoch - 1 := by
    by_cases h : epoch = -9223372036854775808
    · exact .inl h
    · rw [← hE1, IntWalk.wrap64_in _ (by have := hf.1; have := hf.2; omega)]; exact .inr rfl
  have HE1 := Lib.hid hE1; clear hE1
  have HE2 := Lib.hid hE2; clear hE2
  obtain ⟨B, hB⟩ : ∃ B : Bool, ((decide (0 ≤ target) && decide (target ≤ E1)) && nameOk name.data.toList) = B := ⟨_, rfl⟩
  obtain ⟨nk, hn⟩ : ∃ b : Bool, nameOk name.data.toList = b := ⟨_, rfl⟩
  have HB := Lib.hid hB; clear hB
  have HN := Lib.hid hn; clear hn
  cases B
  all_goals
    go_enter Tryz.func228, Tryz.ntmps228
    go_wp2_with fail
    refine (rest_3 epoch time count target till root name _ hname E1 HE1.out).mono ?_
    rintro e w1 ⟨rfl, hb1⟩
    rw [HB.out]
    have hz : w.heap.size < w1.heap.size := by have := hb1.size; simp at this; omega
    have hz2 : ¬ w.heap.size = w1.heap.size := by omega
    have q1 : w1.cell? ⟨w.heap.size, 1, none⟩ = some (.int .i64 epoch) := by rw [hb1.cell (by simp)]; simp
    have q2 : w1.cell? ⟨w.heap.size, 2, none⟩ = some (.int .i64 time) := by rw [hb1.cell (by simp)]; simp
    have Hb := Lib.hid hb1; clear hb1
    go_wp2_with (go_at_call 315; refine (within_walk _ _ _).mono ?_; rintro e w1 ⟨rfl, rfl⟩)
    all_goals go_ret
    all_goals refine ⟨ret_i ?_, ?_⟩
    all_goals first
      | (have hb' := Hb.out; refine ((Below.refl w.heap.size w).alloc (Nat.le_refl _) _).trans (hb'.mono (by simp)) |>.alloc ?_ _; have := hb'.size; simp at this ⊢; omega)
      | skip
    all_goals
      have hb := HB.out
      have hn := HN.out
      have he2 := HE2.out
      try simp only [size_empty, Bool.not_eq_true', Bool.not_eq_false', Bool.and_eq_true, Bool.and_eq_false_iff, decide_eq_false_iff_not, decide_eq_true_eq] at *
      first
      | (refine chk_no ?_; clear hb hn he2 HB HN HE1 HE2; simp [recOk, recKind, *]; done)
      | (refine chk_no ?_; cases nk <;> simp [recOk, recKind, hn] at hb ⊢ <;> simp only [size_empty] at * <;> omega)
      | (refine chk_yes ?_; cases nk <;> simp [recOk, recKind, hn] at hb ⊢ <;> simp only [size_empty] at * <;> omega)
      | (refine chk_no ?_; cases nk <;> simp_all [recOk, recKind] <;> (try simp only [size_empty] at *) <;> omega)
      | (refine chk_yes ?_; cases nk <;> simp_all [recOk, recKind] <;> (try simp only [size_empty] at *) <;> omega)
      | (refine chk_no ?_; cases nk <;> simp_all [recOk, recKind]; done)
      | (refine chk_yes ?_; cases nk <;> simp_all [recOk, recKind]; done)

set_option maxRecDepth 100000 in
set_option maxHeartbeats 4000000 in
theorem check_4 (epoch time count target till : Int) (root name : ByteArray) (w : World) (hname : name.size ≤ 1073741824) (hf : Fits epoch) :
    Calls Tryz.prog 228 #[.agg #[.int .i64 4, .int .i64 epoch, .int .i64 time, .int .i64 count, .int .i64 target, .int .i64 till, .string root, .string name]] w
      fun e w' => e = .returned (.int .i64 (chkI ⟨4, epoch, time, count, target, till, root, name⟩)) ∧ Below w.heap.size w w' := by
  have z1 := isEmpty_size root
  have z2 := isEmpty_size name
  obtain ⟨E1, hE1⟩ : ∃ E1 : Int, wrap64 (epoch - 1) = E1 := ⟨_, rfl⟩
  have hE2 : epoch = -9223372036854775808 ∨ E1 = epoch - 1 := by
    by_cases h : epoch = -9223372036854775808
    · exact .inl h
    · rw [← hE1, IntWalk.wrap64_in _ (by have := hf.1; have := hf.2; omega)]; exact .inr rfl
  have HE1 := Lib.hid hE1; clear hE1
  have HE2 := Lib.hid hE2; clear hE2
  obtain ⟨B, hB⟩ : ∃ B : Bool, (nameOk name.data.toList) = B := ⟨_, rfl⟩
  obtain ⟨nk, hn⟩ : ∃ b : Bool, nameOk name.data.toList = b := ⟨_, rfl⟩
  have HB := Lib.hid hB; clear hB
  have HN := Lib.hid hn; clear hn
  cases B
  all_goals
    go_enter Tryz.func228, Tryz.ntmps228
    go_wp2_with fail
    refine (rest_4 epoch time count target till root name _ hname E1 HE1.out).mono ?_
    rintro e w1 ⟨rfl, hb1⟩
    rw [HB.out]
    have hz : w.heap.size < w1.heap.size := by have := hb1.size; simp at this; omega
    have hz2 : ¬ w.heap.size = w1.heap.size := by omega
    have q1 : w1.cell? ⟨w.heap.size, 1, none⟩ = some (.int .i64 epoch) := by rw [hb1.cell (by simp)]; simp
    have q2 : w1.cell? ⟨w.heap.size, 2, none⟩ = some (.int .i64 time) := by rw [hb1.cell (by simp)]; simp
    have Hb := Lib.hid hb1; clear hb1
    go_wp2_with (go_at_call 315; refine (within_walk _ _ _).mono ?_; rintro e w1 ⟨rfl, rfl⟩)
    all_goals go_ret
    all_goals refine ⟨ret_i ?_, ?_⟩
    all_goals first
      | (have hb' := Hb.out; refine ((Below.refl w.heap.size w).alloc (Nat.le_refl _) _).trans (hb'.mono (by simp)) |>.alloc ?_ _; have := hb'.size; simp at this ⊢; omega)
      | skip
    all_goals
      have hb := HB.out
      have hn := HN.out
      have he2 := HE2.out
      try simp only [size_empty, Bool.not_eq_true', Bool.not_eq_false', Bool.and_eq_true, Bool.and_eq_false_iff, decide_eq_false_iff_not, decide_eq_true_eq] at *
      first
      | (refine chk_no ?_; clear hb hn he2 HB HN HE1 HE2; simp [recOk, recKind, *]; done)
      | (refine chk_no ?_; cases nk <;> simp [recOk, recKind, hn] at hb ⊢ <;> simp only [size_empty] at * <;> omega)
      | (refine chk_yes ?_; cases nk <;> simp [recOk, recKind, hn] at hb ⊢ <;> simp only [size_empty] at * <;> omega)
      | (refine chk_no ?_; cases nk <;> simp_all [recOk, recKind] <;> (try simp only [size_empty] at *) <;> omega)
      | (refine chk_yes ?_; cases nk <;> simp_all [recOk, recKind] <;> (try simp only [size_empty] at *) <;> omega)
      | (refine chk_no ?_; cases nk <;> simp_all [recOk, recKind]; done)
      | (refine chk_yes ?_; cases nk <;> simp_all [recOk, recKind]; done)

set_option maxRecDepth 100000 in
set_option maxHeartbeats 4000000 in
theorem check_o (kind epoch time count target till : Int) (root name : ByteArray) (w : World) (hname : name.size ≤ 1073741824) (hf : Fits epoch) (k1 : ¬ kind = 1) (k2 : ¬ kind = 2) (k5 : ¬ kind = 5) (k3 : ¬ kind = 3) (k4 : ¬ kind = 4) :
    Calls Tryz.prog 228 #[.agg #[.int .i64 kind, .int .i64 epoch, .int .i64 time, .int .i64 count, .int .i64 target, .int .i64 till, .string root, .string name]] w
      fun e w' => e = .returned (.int .i64 (chkI ⟨kind, epoch, time, count, target, till, root, name⟩)) ∧ Below w.heap.size w w' := by
  have z1 := isEmpty_size root
  have z2 := isEmpty_size name
  obtain ⟨E1, hE1⟩ : ∃ E1 : Int, wrap64 (epoch - 1) = E1 := ⟨_, rfl⟩
  have hE2 : epoch = -9223372036854775808 ∨ E1 = epoch - 1 := by
    by_cases h : epoch = -9223372036854775808
    · exact .inl h
    · rw [← hE1, IntWalk.wrap64_in _ (by have := hf.1; have := hf.2; omega)]; exact .inr rfl
  have HE1 := Lib.hid hE1; clear hE1
  have HE2 := Lib.hid hE2; clear hE2
  obtain ⟨B, hB⟩ : ∃ B : Bool, (false) = B := ⟨_, rfl⟩
  obtain ⟨nk, hn⟩ : ∃ b : Bool, nameOk name.data.toList = b := ⟨_, rfl⟩
  have HB := Lib.hid hB; clear hB
  have HN := Lib.hid hn; clear hn
  cases B
  all_goals
    go_enter Tryz.func228, Tryz.ntmps228
    go_wp2_with fail
    refine (rest_o kind epoch time count target till root name _ hname E1 HE1.out k1 k2 k5 k3 k4).mono ?_
    rintro e w1 ⟨rfl, hb1⟩
    skip
    have hz : w.heap.size < w1.heap.size := by have := hb1.size; simp at this; omega
    have hz2 : ¬ w.heap.size = w1.heap.size := by omega
    have q1 : w1.cell? ⟨w.heap.size, 1, none⟩ = some (.int .i64 epoch) := by rw [hb1.cell (by simp)]; simp
    have q2 : w1.cell? ⟨w.heap.size, 2, none⟩ = some (.int .i64 time) := by rw [hb1.cell (by simp)]; simp
    have Hb := Lib.hid hb1; clear hb1
    go_wp2_with (go_at_call 315; refine (within_walk _ _ _).mono ?_; rintro e w1 ⟨rfl, rfl⟩)
    all_goals go_ret
    all_goals refine ⟨ret_i ?_, ?_⟩
    all_goals first
      | (have hb' := Hb.out; refine ((Below.refl w.heap.size w).alloc (Nat.le_refl _) _).trans (hb'.mono (by simp)) |>.alloc ?_ _; have := hb'.size; simp at this ⊢; omega)
      | skip
    all_goals
      have hb := HB.out
      have hn := HN.out
      have he2 := HE2.out
      try simp only [size_empty, Bool.not_eq_true', Bool.not_eq_false', Bool.and_eq_true, Bool.and_eq_false_iff, decide_eq_false_iff_not, decide_eq_true_eq] at *
      first
      | (refine chk_no ?_; clear hb hn he2 HB HN HE1 HE2; simp [recOk, recKind, *]; done)
      | (refine chk_no ?_; cases nk <;> simp [recOk, recKind, hn] at hb ⊢ <;> simp only [size_empty] at * <;> omega)
      | (refine chk_yes ?_; cases nk <;> simp [recOk, recKind, hn] at hb ⊢ <;> simp only [size_empty] at * <;> omega)
      | (refine chk_no ?_; cases nk <;> simp_all [recOk, recKind] <;> (try simp only [size_empty] at *) <;> omega)
      | (refine chk_yes ?_; cases nk <;> simp_all [recOk, recKind] <;> (try simp only [size_empty] at *) <;> omega)
      | (refine chk_no ?_; cases nk <;> simp_all [recOk, recKind]; done)
      | (refine chk_yes ?_; cases nk <;> simp_all [recOk, recKind]; done)
end Go.Proofs.YtppdboadjefieaaGreat
namespace Go.Proofs.YtppdboadjefieaaGreat
set_option linter.unusedSimpArgs false
set_option linter.unusedVariables false
open Go Go.RowKit
set_option linter.unusedVariables false

theorem IntsIn.shape {w : World} {v : Value} {xs : List Int} (h : IntsIn w v xs) : ∃ (p : Option Addr) (c : Nat), v = .slice p xs.length c := by
  rcases h.row with ⟨rfl, p, c, rfl⟩ | ⟨g, o, c, rfl, _⟩
  · exact ⟨p, c, rfl⟩
  · exact ⟨_, c, rfl⟩
theorem StrsIn.shape {w : World} {v : Value} {xs : List ByteArray} (h : StrsIn w v xs) : ∃ (p : Option Addr) (c : Nat), v = .slice p xs.length c := by
  rcases h.row with ⟨rfl, p, c, rfl⟩ | ⟨g, o, c, rfl, _⟩
  · exact ⟨p, c, rfl⟩
  · exact ⟨_, c, rfl⟩

theorem ret_bool {a b : Bool} (h : a = b) : Ending.returned (Value.bool a) = Ending.returned (Value.bool b) := by rw [h]
theorem ints_other {xs ys : List Int} (h : xs.length ≠ ys.length) : decide (xs = ys) = false := by
  simp; intro e; exact h (by rw [e])

/-- How many bytes texts have, each counted up to 100000. -/
def bytesN (xs : List ByteArray) : Nat := (xs.map fun x => min x.size 100000).sum
theorem bytesN_snoc (xs : List ByteArray) (k : Nat) (x : ByteArray) (h : xs[k]? = some x) : bytesN (xs.take (k + 1)) = bytesN (xs.take k) + min x.size 100000 := by
  obtain ⟨hk, rfl⟩ := List.getElem?_eq_some_iff.1 h
  unfold bytesN
  rw [List.take_succ_eq_append_getElem hk, List.map_append, List.sum_append]
  simp only [List.map_cons, List.map_nil, List.sum_cons, List.sum_nil, Nat.add_zero]
theorem bytesN_le (xs : List ByteArray) : bytesN xs ≤ 100000 * xs.length := by
  induction xs with
  | nil => simp [bytesN]
  | cons a r ih => simp only [bytesN, List.map_cons, List.sum_cons, List.length_cons] at *; omega
theorem catL_bytesN (xs : List ByteArray) (h : bytesN xs < 100000) : (catL xs).length ≤ bytesN xs := by
  induction xs with
  | nil => simp [catL]
  | cons a r ih =>
    simp only [bytesN, List.map_cons, List.sum_cons] at *
    have := ih (by omega)
    simp only [catL, List.flatMap_cons, List.length_append] at *
    have e : a.data.toList.length = a.size := rfl
    omega

set_option maxHeartbeats 1000000 in
theorem bytes01_walk (v : Value) (xs : List ByteArray) (w : World) (h : StrsIn w v xs) (hx : xs.length ≤ 2000) :
    Calls Tryz.prog 183 #[v] w fun e w' => e = .returned (.int .i64 (bytesN xs : Nat)) ∧ Below w.heap.size w w' := by
  by_cases c0 : xs = []
  · subst c0
    obtain ⟨p, c, rfl⟩ := h.shape
    clear h
    go_enter Tryz.func183, Tryz.ntmps183
    go_wp2_with fail
    go_loop [3, 4] (fun n i => n = .int .i64 0 ∧ i = .int .i64 0) (fun _ i => 0)
    case atStart => exact ⟨rfl, rfl⟩
    case round =>
      obtain ⟨rfl, rfl⟩ := hrel
      go_wp2_with fail
      go_ret
      exact ⟨rfl, Below.refl _ _⟩
  rcases h.row with ⟨rfl, _⟩ | ⟨g, o, c, rfl, hcap, hg, hc⟩
  · exact absurd rfl c0
  clear h c0
  have HC := Lib.hid hc; clear hc
  go_enter Tryz.func183, Tryz.ntmps183
  go_wp2_with fail
  go_loopw [3, 4] (fun n i wr => ∃ k m : Nat, k ≤ xs.length ∧ i = .int .i64 k ∧ n = .int .i64 m ∧ m = bytesN (xs.take k) ∧ m ≤ 100000 * k ∧ Below w.heap.size w wr) (fun _ i _ => xs.length - (intOf i).toNat)
  case atStart => exact ⟨0, 0, by omega, rfl, rfl, rfl, by omega, Below.refl _ _⟩
  case round =>
    obtain ⟨k, m, hk, rfl, rfl, hm, hm2, hbel⟩ := hrel
    have HM := Lib.hid hm; clear hm
    by_cases hlt : k < xs.length
    · have hlt' : (k : Int) < xs.length := by omega
      obtain ⟨x, hxk⟩ : ∃ x, xs[k]? = some x := ⟨_, List.getElem?_eq_getElem hlt⟩
      have ck : wr.cell? ⟨g, o + k, none⟩ = some (.string x) := by rw [hbel.cell (by show g < w.heap.size; exact hg)]; exact HC.out k x hxk
      have HX := Lib.hid hxk; clear hxk
      have hk2 : (k : Int) < 2000 := by omega
      by_cases hb : x.size ≤ 100000
      · have e1 : min (x.size : Int) 100000 = (x.size : Int) := by omega
        have HE := Lib.hid e1; clear e1
        have hb' : (x.size : Int) ≤ 100000 := by omega
        go_wp2_with fail
        go_roundw
        case rel =>
          refine ⟨k + 1, m + x.size, by omega, by go_num, ?_, by rw [bytesN_snoc _ _ _ HX.out, ← HM.out]; omega, by omega, hbel⟩
          try rw [HE.out]
          go_num
        case measure => simp [intOf]; omega
      · have e1 : min (x.size : Int) 100000 = 100000 := by omega
        have HE := Lib.hid e1; clear e1
        have hb' : (100000 : Int) < x.size := by omega
        go_wp2_with fail
        go_roundw
        case rel =>
          refine ⟨k + 1, m + 100000, by omega, by go_num, ?_, by rw [bytesN_snoc _ _ _ HX.out, ← HM.out]; omega, by omega, hbel⟩
          try rw [HE.out]
          go_num
        case measure => simp [intOf]; omega
    · obtain rfl : k = xs.length := by omega
      go_wp2_with fail
      go_ret
      refine ⟨?_, hbel⟩
      rw [show bytesN xs = m by rw [HM.out, List.take_length]]
      rfl

end Go.Proofs.YtppdboadjefieaaGreat
namespace Go.Proofs.YtppdboadjefieaaGreat
set_option linter.unusedSimpArgs false
set_option linter.unusedVariables false
open Go Go.RowKit
set_option linter.unusedVariables false

/-- The first k numbers' bytes. -/
def packTo (ws xs : List Int) (k : Nat) : List UInt8 := ((ws.zip xs).take k).flatMap fun p => beBytes p.1.toNat p.2.toNat
def packL (ws xs : List Int) : List UInt8 := (ws.zip xs).flatMap fun p => beBytes p.1.toNat p.2.toNat
theorem packTo_succ (ws xs : List Int) (k : Nat) (a x : Int) (ha : ws[k]? = some a) (hx : xs[k]? = some x) : packTo ws xs (k + 1) = packTo ws xs k ++ beBytes a.toNat x.toNat := by
  have hz : (ws.zip xs)[k]? = some (a, x) := by rw [List.getElem?_zip_eq_some]; exact ⟨ha, hx⟩
  obtain ⟨hk, he⟩ := List.getElem?_eq_some_iff.1 hz
  unfold packTo
  rw [List.take_succ_eq_append_getElem hk, List.flatMap_append, he]
  simp
theorem packTo_all (ws xs : List Int) (h : ws.length = xs.length) : packTo ws xs xs.length = packL ws xs := by
  unfold packTo packL
  rw [List.take_of_length_le (by rw [List.length_zip]; omega)]
/-- Numbers that fit their widths. -/
structure PackOk (ws xs : List Int) : Prop where
  len : ws.length = xs.length
  each : ∀ (i : Nat) (a x : Int), ws[i]? = some a → xs[i]? = some x → 1 ≤ a ∧ a ≤ 8 ∧ 0 ≤ x ∧ x < 9223372036854775808 ∧ x.toNat < 256 ^ a.toNat
theorem packTo_le {ws xs : List Int} (h : PackOk ws xs) (k : Nat) : (packTo ws xs k).length ≤ 8 * k := by
  induction k with
  | zero => simp [packTo]
  | succ k ih =>
    by_cases hk : k < xs.length
    · obtain ⟨x, hx⟩ : ∃ x, xs[k]? = some x := ⟨_, List.getElem?_eq_getElem hk⟩
      obtain ⟨a, ha⟩ : ∃ x, ws[k]? = some x := ⟨_, List.getElem?_eq_getElem (by rw [h.len]; exact hk)⟩
      rw [packTo_succ _ _ _ _ _ ha hx, List.length_append, beBytes_length]
      have := h.each k a x ha hx
      omega
    · have : packTo ws xs (k + 1) = packTo ws xs k := by
        unfold packTo
        rw [List.take_of_length_le (by rw [List.length_zip]; omega), List.take_of_length_le (by rw [List.length_zip]; omega)]
      rw [this]
      omega
theorem IntRow.at {w : World} {v : Value} {xs : List Int} (h : IntRow w v xs) (hne : 0 < xs.length) : ∃ g o c, v = .slice (some ⟨g, o, none⟩) xs.length c ∧ g < w.heap.size ∧ ∀ (j : Nat) (x : Int), xs[j]? = some x → w.cell? ⟨g, o + j, none⟩ = some (.int .i64 x) := by
  rcases h with ⟨rfl, _⟩ | h
  · simp at hne
  · exact h

set_option maxRecDepth 100000 in
set_option maxHeartbeats 1000000 in
theorem opack_walk (v u : Value) (ws xs : List Int) (w : World) (hv : IntRow w v ws) (hu : IntRow w u xs) (hne : 0 < xs.length) (hx : xs.length ≤ 16) (hok : PackOk ws xs) :
    Calls Tryz.prog 214 #[v, u] w fun e w' => ∃ r, e = .returned (.tuple #[.string r, .int .i64 0]) ∧ Txt r (packL ws xs) ∧ Below w.heap.size w w' := by
  obtain ⟨g, o, c, rfl, hg, hc⟩ := hv.at (by rw [hok.len]; exact hne)
  obtain ⟨g', o', c', rfl, hg', hc'⟩ := hu.at hne
  obtain ⟨n, Hn⟩ : ∃ n, Hid (n = xs.length) := ⟨_, rfl⟩
  rw [hok.len, ← Hn.out]
  rw [← Hn.out] at hx hne
  have HO := Lib.hid hok; clear hok
  have HC := Lib.hid hc; clear hc
  have HC' := Lib.hid hc'; clear hc'
  clear hv hu
  go_enter Tryz.func214, Tryz.ntmps214
  go_wp2_with ((with_reducible refine wpList_alloc_new 198 _ zeroBuilder (some 6) ?hgd ?ho ?hd ?_); (case hgd => rfl); (case ho => rfl); (case hd => rfl); (intro b w1 l1 B1 e1 z1))
  have hB1 := Bld.new B1
  have hbel := e1.mono l1
  clear B1 e1 z1
  go_loopw [18] (fun i wr => ∃ k : Nat, k ≤ n ∧ i = .int .i64 k ∧ Bld wr b (packTo ws xs k) ∧ Below w.heap.size w wr) (fun i _ => n - (intOf i).toNat)
  case atStart => exact ⟨0, by omega, rfl, hB1, hbel⟩
  case round =>
    clear hB1 hbel
    obtain ⟨k, hk, rfl, hB, hbel⟩ := hrel
    have HB := Lib.hid hB; clear hB
    by_cases hlt : k < n
    · have hlt' : (k : Int) < n := by omega
      obtain ⟨x, hxk⟩ : ∃ x, xs[k]? = some x := ⟨_, List.getElem?_eq_getElem (by rw [← Hn.out]; exact hlt)⟩
      obtain ⟨a, hak⟩ : ∃ x, ws[k]? = some x := ⟨_, List.getElem?_eq_getElem (by rw [HO.out.len, ← Hn.out]; exact hlt)⟩
      have hcx : wr.cell? ⟨g', o' + k, none⟩ = some (.int .i64 x) := by rw [hbel.cell (by show g' < w.heap.size; exact hg')]; exact HC'.out k x hxk
      have hca : wr.cell? ⟨g, o + k, none⟩ = some (.int .i64 a) := by rw [hbel.cell (by show g < w.heap.size; exact hg)]; exact HC.out k a hak
      obtain ⟨h1, h2, h3, h4, h5⟩ := HO.out.each k a x hak hxk
      obtain ⟨m, rfl⟩ : ∃ m : Nat, x = (m : Int) := ⟨x.toNat, by omega⟩
      obtain ⟨a', rfl⟩ : ∃ m : Nat, a = (m : Int) := ⟨a.toNat, by omega⟩
      have HX := Lib.hid hxk; clear hxk
      have HA := Lib.hid hak; clear hak
      have h0 : (0 : Int) ≤ (k : Int) := by omega
      go_wp2_with fail
      refine (oput m a' _ (by omega) (by omega) (by omega) (fun _ => by simpa using h5)).mono ?_
      rintro e w3 ⟨r, rfl, tr, hb3⟩
      have hB3 := HB.out.below hb3
      have HB3 := Lib.hid hB3; clear hB3
      have sr : r.size ≤ 8 := by rw [tr.size, beBytes_length]; omega
      go_wp2_with fail
      refine (bld_writeString b _ r _ HB3.out (by have := packTo_le HO.out k; omega)).mono ?_
      rintro e w4 ⟨rfl, hB4, hb4⟩
      have HB4 := Lib.hid hB4; clear hB4
      go_wp2_with fail
      go_roundw
      case rel =>
        refine ⟨k + 1, by omega, by go_num, ?_, (hbel.trans (hb3.mono hbel.size)).trans (hb4.mono l1)⟩
        have := HB4.out
        rw [show r.data.toList = _ from tr] at this
        rw [packTo_succ _ _ _ _ _ HA.out HX.out, Int.toNat_natCast, Int.toNat_natCast]
        exact this
      case measure => simp [intOf]; omega
    · obtain rfl : k = n := by omega
      go_wp2_with fail
      refine (bld_string b _ _ HB.out).mono ?_
      rintro e w5 ⟨q, rfl, tq, hb5⟩
      go_wp2_with fail
      go_ret2
      exact ⟨q, rfl, tq.cast (by rw [Hn.out]; exact packTo_all _ _ HO.out.len), hbel.trans (hb5.mono l1)⟩

set_option maxRecDepth 100000 in
set_option maxHeartbeats 1000000 in
theorem rpack_walk (v u : Value) (ws xs : List Int) (w : World) (hv : IntRow w v ws) (hu : IntRow w u xs) (hne : 0 < xs.length) (hx : xs.length ≤ 16) (hok : PackOk ws xs) :
    Calls Tryz.prog 460 #[v, u] w fun e w' => ∃ r, e = .returned (.tuple #[.string r, .int .i64 0]) ∧ Txt r (packL ws xs) ∧ Below w.heap.size w w' := by
  obtain ⟨g, o, c, rfl, hg, hc⟩ := hv.at (by rw [hok.len]; exact hne)
  obtain ⟨g', o', c', rfl, hg', hc'⟩ := hu.at hne
  obtain ⟨n, Hn⟩ : ∃ n, Hid (n = xs.length) := ⟨_, rfl⟩
  rw [hok.len, ← Hn.out]
  rw [← Hn.out] at hx hne
  have HO := Lib.hid hok; clear hok
  have HC := Lib.hid hc; clear hc
  have HC' := Lib.hid hc'; clear hc'
  clear hv hu
  go_enter Tryz.func460, Tryz.ntmps460
  go_wp2_with fail
  go_loopw [6, 7] (fun v6 i wr => ∃ (k : Nat) (q : ByteArray), k ≤ n ∧ i = .int .i64 k ∧ v6 = .string q ∧ Txt q (packTo ws xs k) ∧ Below w.heap.size w wr) (fun _ i _ => n - (intOf i).toNat)
  case atStart => exact ⟨0, ⟨#[]⟩, by omega, rfl, rfl, Txt.mk [], Below.refl _ _⟩
  case round =>
    obtain ⟨k, q, hk, rfl, rfl, tq, hbel⟩ := hrel
    have sq : q.size ≤ 1024 := by rw [tq.size]; have := packTo_le HO.out k; omega
    by_cases hlt : k < n
    · have hlt' : (k : Int) < n := by omega
      obtain ⟨x, hxk⟩ : ∃ x, xs[k]? = some x := ⟨_, List.getElem?_eq_getElem (by rw [← Hn.out]; exact hlt)⟩
      obtain ⟨a, hak⟩ : ∃ x, ws[k]? = some x := ⟨_, List.getElem?_eq_getElem (by rw [HO.out.len, ← Hn.out]; exact hlt)⟩
      have hcx : wr.cell? ⟨g', o' + k, none⟩ = some (.int .i64 x) := by rw [hbel.cell (by show g' < w.heap.size; exact hg')]; exact HC'.out k x hxk
      have hca : wr.cell? ⟨g, o + k, none⟩ = some (.int .i64 a) := by rw [hbel.cell (by show g < w.heap.size; exact hg)]; exact HC.out k a hak
      obtain ⟨h1, h2, h3, h4, h5⟩ := HO.out.each k a x hak hxk
      obtain ⟨m, rfl⟩ : ∃ m : Nat, x = (m : Int) := ⟨x.toNat, by omega⟩
      obtain ⟨a', rfl⟩ : ∃ m : Nat, a = (m : Int) := ⟨a.toNat, by omega⟩
      have HX := Lib.hid hxk; clear hxk
      have HA := Lib.hid hak; clear hak
      have h0 : (0 : Int) ≤ (k : Int) := by omega
      go_wp2_with fail
      have hgl : g < wr.heap.size := by have := hbel.size; omega
      have hgl' : g' < wr.heap.size := by have := hbel.size; omega
      go_region_held3 (fun w' => w'.cell? ⟨g', o' + k, none⟩ = some (.int .i64 m) ∧ w'.cell? ⟨g, o + k, none⟩ = some (.int .i64 a')) (go_keep) ((go_at_call 105; refine (rput_walk m a' _ (by omega)).mono ?_; rintro e w3 ⟨he, hb3⟩; obtain ⟨r, rfl, tr⟩ := he.yes ⟨by omega, by omega, by omega, by simpa using h5⟩; clear he; have p1 : w3.cell? ⟨g', o' + k, none⟩ = some (.int .i64 m) := (hb3.cell (p := ⟨g', o' + k, none⟩) hgl').trans hcx; have p2 : w3.cell? ⟨g, o + k, none⟩ = some (.int .i64 a') := (hb3.cell (p := ⟨g, o + k, none⟩) hgl).trans hca))
      have sr : r.size ≤ 8 := by rw [tr.size, beBytes_length]; omega
      go_wp2_with fail
      go_roundw
      case rel =>
        refine ⟨k + 1, q ++ r, by omega, by go_num, rfl, ?_, hbel.trans ((Below.refl _ _).drew.trans hb3 |>.mono hbel.size)⟩
        rw [packTo_succ _ _ _ _ _ HA.out HX.out, Int.toNat_natCast, Int.toNat_natCast]
        exact tq.append tr
      case measure => simp [intOf]; omega
    · obtain rfl : k = n := by omega
      go_wp2_with fail
      go_ret2
      exact ⟨q, rfl, tq.cast (by rw [Hn.out]; exact packTo_all _ _ HO.out.len), hbel⟩
end Go.Proofs.YtppdboadjefieaaGreat
