/- Walk of the documents' Right (chapter 19). Walk of record.Check. Walks of the documents' Ints, Bytes (chapter 01) and Join (chapter 02): rows of numbers and texts that came in. Walks of octet.Pack and the documents' Pack, where all numbers fit. Shapes (chapter 9): Check, Data, Place, Key, Super, widths, Put, of a shape that may be. A store into a block, at the operation (for regions that draw their order). No program in sight. -/
import Derived.Test.YtppdboadjefieaaGreatQ6
import Derived.Test.YtppdboadjefieaaGreatQ5
import Derived.Test.YtppdboadjefieaaGreatQ2
import Derived.OwnWalk
import Derived.RegionTactic
import Derived.ChangeAlike
import Derived.Deep.QuietTactic
import Derived.BigQuiet
import Derived.Deep.RegionHeld3
import Derived.Test.YtppdboadjefieaaGreatQ4
import Derived.OrdersHeld
import Derived.Deep.MidRow
set_option linter.unusedSimpArgs false
set_option linter.unusedVariables false
namespace Go.Proofs.YtppdboadjefieaaGreat
open Go Go.RowKit

end Go.Proofs.YtppdboadjefieaaGreat
namespace Go.Proofs.YtppdboadjefieaaGreat
open Go Go.RowKit

def chkI (r : Rec) : Int := if recOk r then 0 else 2
theorem chk_no {r : Rec} (h : recOk r = false) : (2 : Int) = chkI r := by unfold chkI; rw [h]; rfl
theorem chk_yes {r : Rec} (h : recOk r = true) : (0 : Int) = chkI r := by unfold chkI; rw [h]; rfl
theorem size_empty (s : ByteArray) : s = ByteArray.empty ↔ s.size = 0 := by
  constructor
  · rintro rfl; rfl
  · intro h
    have : s.data.toList = [] := List.eq_nil_of_length_eq_zero h
    exact (Txt.self s).eq (show Txt ByteArray.empty s.data.toList by rw [this]; rfl)
set_option maxRecDepth 100000 in
set_option maxHeartbeats 4000000 in
theorem check_1 (epoch time count target till : Int) (root name : ByteArray) (w : World) (hname : name.size ≤ 1073741824) (hf : Fits epoch) :
    Calls Tryz.prog 228 #[.agg #[.int .i64 1, .int .i64 epoch, .int .i64 time, .int .i64 count, .int .i64 target, .int .i64 till, .string root, .string name]] w
      fun e w' => e = .returned (.int .i64 (chkI ⟨1, epoch, time, count, target, till, root, name⟩)) ∧ Below w.heap.size w w' := by
  have z1 := isEmpty_size root
  have z2 := isEmpty_size name
  obtain ⟨E1, hE1⟩ : ∃ E1 : Int, wrap64 (epoch - 1) = E1 := ⟨_, rfl⟩
  have hE2 : epoch = -9223372036854775808 ∨ E1 = epoch - 1 := by
    by_cases h : epoch = -9223372036854775808
    · exact .inl h
    · rw [← hE1, IntWalk.wrap64_in _ (by have := hf.1; have := hf.2; omega)]; exact .inr rfl
  have HE1 := Lib.hid hE1; clear hE1
  have HE2 := Lib.hid hE2; clear hE2
  obtain ⟨B, hB⟩ : ∃ B : Bool, ((decide (0 ≤ count) && decide (count ≤ 4096)) && decide (root.size = 32)) = B := ⟨_, rfl⟩
  obtain ⟨nk, hn⟩ : ∃ b : Bool, nameOk name.data.toList = b := ⟨_, rfl⟩
  have HB := Lib.hid hB; clear hB
  have HN := Lib.hid hn; clear hn
  cases B
  all_goals
    go_enter Tryz.func228, Tryz.ntmps228
    go_wp2_with fail
    refine (rest_1 epoch time count target till root name _ hname E1 HE1.out).mono ?_
    rintro e w1 ⟨rfl, hb1⟩
    rw [HB.out]
    have hz : w.heap.size < w1.heap.size := by have := hb1.size; simp at this; omega
    have hz2 : ¬ w.heap.size = w1.heap.size := by omega
    have q1 : w1.cell? ⟨w.heap.size, 1, none⟩ = some (.int .i64 epoch) := by rw [hb1.cell (by simp)]; simp
    have q2 : w1.cell? ⟨w.heap.size, 2, none⟩ = some (.int .i64 time) := by rw [hb1.cell (by simp)]; simp
    have Hb := Lib.hid hb1; clear hb1
    go_wp2_with (go_at_call 315; refine (within_walk _ _ _).mono ?_; rintro e w1 ⟨rfl, rfl⟩)
    all_goals go_ret
    all_goals refine ⟨ret_i ?_, ?_⟩
    all_goals first
      | (have hb' := Hb.out; refine ((Below.refl w.heap.size w).alloc (Nat.le_refl _) _).trans (hb'.mono (by simp)) |>.alloc ?_ _; have := hb'.size; simp at this ⊢; omega)
      | skip
    all_goals
      have hb := HB.out
      have hn := HN.out
      have he2 := HE2.out
      try simp only [size_empty, Bool.not_eq_true', Bool.not_eq_false', Bool.and_eq_true, Bool.and_eq_false_iff, decide_eq_false_iff_not, decide_eq_true_eq] at *
      first
      | (refine chk_no ?_; clear hb hn he2 HB HN HE1 HE2; simp [recOk, recKind, *]; done)
      | (refine chk_no ?_; cases nk <;> simp [recOk, recKind, hn] at hb ⊢ <;> simp only [size_empty] at * <;> omega)
      | (refine chk_yes ?_; cases nk <;> simp [recOk, recKind, hn] at hb ⊢ <;> simp only [size_empty] at * <;> omega)
      | (refine chk_no ?_; cases nk <;> simp_all [recOk, recKind] <;> (try simp only [size_empty] at *) <;> omega)
      | (refine chk_yes ?_; cases nk <;> simp_all [recOk, recKind] <;> (try simp only [size_empty] at *) <;> omega)
      | (refine chk_no ?_; cases nk <;> simp_all [recOk, recKind]; done)
      | (refine chk_yes ?_; cases nk <;> simp_all [recOk, recKind]; done)

set_option maxRecDepth 100000 in
set_option maxHeartbeats 4000000 in
theorem check_2 (epoch time count target till : Int) (root name : ByteArray) (w : World) (hname : name.size ≤ 1073741824) (hf : Fits epoch) :
    Calls Tryz.prog 228 #[.agg #[.int .i64 2, .int .i64 epoch, .int .i64 time, .int .i64 count, .int .i64 target, .int .i64 till, .string root, .string name]] w
      fun e w' => e = .returned (.int .i64 (chkI ⟨2, epoch, time, count, target, till, root, name⟩)) ∧ Below w.heap.size w w' := by
  have z1 := isEmpty_size root
  have z2 := isEmpty_size name
  obtain ⟨E1, hE1⟩ : ∃ E1 : Int, wrap64 (epoch - 1) = E1 := ⟨_, rfl⟩
  have hE2 : epoch = -9223372036854775808 ∨ E1 = epoch - 1 := by
    by_cases h : epoch = -9223372036854775808
    · exact .inl h
    · rw [← hE1, IntWalk.wrap64_in _ (by have := hf.1; have := hf.2; omega)]; exact .inr rfl
  have HE1 := Lib.hid hE1; clear hE1
  have HE2 := Lib.hid hE2; clear hE2
  obtain ⟨B, hB⟩ : ∃ B : Bool, ((decide (0 ≤ till) && decide (till ≤ 1099511627776)) && (decide (0 ≤ target) && decide (target ≤ E1))) = B := ⟨_, rfl⟩
  obtain ⟨nk, hn⟩ : ∃ b : Bool, nameOk name.data.toList = b := ⟨_, rfl⟩
  have HB := Lib.hid hB; clear hB
  have HN := Lib.hid hn; clear hn
  cases B
  all_goals
    go_enter Tryz.func228, Tryz.ntmps228
    go_wp2_with fail
    refine (rest_2 epoch time count target till root name _ hname E1 HE1.out).mono ?_
    rintro e w1 ⟨rfl, hb1⟩
    rw [HB.out]
    have hz : w.heap.size < w1.heap.size := by have := hb1.size; simp at this; omega
    have hz2 : ¬ w.heap.size = w1.heap.size := by omega
    have q1 : w1.cell? ⟨w.heap.size, 1, none⟩ = some (.int .i64 epoch) := by rw [hb1.cell (by simp)]; simp
    have q2 : w1.cell? ⟨w.heap.size, 2, none⟩ = some (.int .i64 time) := by rw [hb1.cell (by simp)]; simp
    have Hb := Lib.hid hb1; clear hb1
    go_wp2_with (go_at_call 315; refine (within_walk _ _ _).mono ?_; rintro e w1 ⟨rfl, rfl⟩)
    all_goals go_ret
    all_goals refine ⟨ret_i ?_, ?_⟩
    all_goals first
      | (have hb' := Hb.out; refine ((Below.refl w.heap.size w).alloc (Nat.le_refl _) _).trans (hb'.mono (by simp)) |>.alloc ?_ _; have := hb'.size; simp at this ⊢; omega)
      | skip
    all_goals
      have hb := HB.out
      have hn := HN.out
      have he2 := HE2.out
      try simp only [size_empty, Bool.not_eq_true', Bool.not_eq_false', Bool.and_eq_true, Bool.and_eq_false_iff, decide_eq_false_iff_not, decide_eq_true_eq] at *
      first
      | (refine chk_no ?_; clear hb hn he2 HB HN HE1 HE2; simp [recOk, recKind, *]; done)
      | (refine chk_no ?_; cases nk <;> simp [recOk, recKind, hn] at hb ⊢ <;> simp only [size_empty] at * <;> omega)
      | (refine chk_yes ?_; cases nk <;> simp [recOk, recKind, hn] at hb ⊢ <;> simp only [size_empty] at * <;> omega)
      | (refine chk_no ?_; cases nk <;> simp_all [recOk, recKind] <;> (try simp only [size_empty] at *) <;> omega)
      | (refine chk_yes ?_; cases nk <;> simp_all [recOk, recKind] <;> (try simp only [size_empty] at *) <;> omega)
      | (refine chk_no ?_; cases nk <;> simp_all [recOk, recKind]; done)
      | (refine chk_yes ?_; cases nk <;> simp_all [recOk, recKind]; done)

set_option maxRecDepth 100000 in
set_option maxHeartbeats 4000000 in
theorem check_5 (epoch time count target till : Int) (root name : ByteArray) (w : World) (hname : name.size ≤ 1073741824) (hf : Fits epoch) :
    Calls Tryz.prog 228 #[.agg #[.int .i64 5, .int .i64 epoch, .int .i64 time, .int .i64 count, .int .i64 target, .int .i64 till, .string root, .string name]] w
      fun e w' => e = .returned (.int .i64 (chkI ⟨5, epoch, time, count, target, till, root, name⟩)) ∧ Below w.heap.size w w' := by
  have z1 := isEmpty_size root
  have z2 := isEmpty_size name
  obtain ⟨E1, hE1⟩ : ∃ E1 : Int, wrap64 (epoch - 1) = E1 := ⟨_, rfl⟩
  have hE2 : epoch = -9223372036854775808 ∨ E1 = epoch - 1 := by
    by_cases h : epoch = -9223372036854775808
    · exact .inl h
    · rw [← hE1, IntWalk.wrap64_in _ (by have := hf.1; have := hf.2; omega)]; exact .inr rfl
  have HE1 := Lib.hid hE1; clear hE1
  have HE2 := Lib.hid hE2; clear hE2
  obtain ⟨B, hB⟩ : ∃ B : Bool, ((decide (0 ≤ till) && decide (till ≤ 1099511627776)) && (decide (0 ≤ target) && decide (target ≤ E1))) = B := ⟨_, rfl⟩
  obtain ⟨nk, hn⟩ : ∃ b : Bool, nameOk name.data.toList = b := ⟨_, rfl⟩
  have HB := Lib.hid hB; clear hB
  have HN := Lib.hid hn; clear hn
  cases B
  all_goals
    go_enter Tryz.func228, Tryz.ntmps228
    go_wp2_with fail
    refine (rest_5 epoch time count target till root name _ hname E1 HE1.out).mono ?_
    rintro e w1 ⟨rfl, hb1⟩
    rw [HB.out]
    have hz : w.heap.size < w1.heap.size := by have := hb1.size; simp at this; omega
    have hz2 : ¬ w.heap.size = w1.heap.size := by omega
    have q1 : w1.cell? ⟨w.heap.size, 1, none⟩ = some (.int .i64 epoch) := by rw [hb1.cell (by simp)]; simp
    have q2 : w1.cell? ⟨w.heap.size, 2, none⟩ = some (.int .i64 time) := by rw [hb1.cell (by simp)]; simp
    have Hb := Lib.hid hb1; clear hb1
    go_wp2_with (go_at_call 315; refine (within_walk _ _ _).mono ?_; rintro e w1 ⟨rfl, rfl⟩)
    all_goals go_ret
    all_goals refine ⟨ret_i ?_, ?_⟩
    all_goals first
      | (have hb' := Hb.out; refine ((Below.refl w.heap.size w).alloc (Nat.le_refl _) _).trans (hb'.mono (by simp)) |>.alloc ?_ _; have := hb'.size; simp at this ⊢; omega)
      | skip
    all_goals
      have hb := HB.out
      have hn := HN.out
      have he2 := HE2.out
      try simp only [size_empty, Bool.not_eq_true', Bool.not_eq_false', Bool.and_eq_true, Bool.and_eq_false_iff, decide_eq_false_iff_not, decide_eq_true_eq] at *
      first
      | (refine chk_no ?_; clear hb hn he2 HB HN HE1 HE2; simp [recOk, recKind, *]; done)
      | (refine chk_no ?_; cases nk <;> simp [recOk, recKind, hn] at hb ⊢ <;> simp only [size_empty] at * <;> omega)
      | (refine chk_yes ?_; cases nk <;> simp [recOk, recKind, hn] at hb ⊢ <;> simp only [size_empty] at * <;> omega)
      | (refine chk_no ?_; cases nk <;> simp_all [recOk, recKind] <;> (try simp only [size_empty] at *) <;> omega)
      | (refine chk_yes ?_; cases nk <;> simp_all [recOk, recKind] <;> (try simp only [size_empty] at *) <;> omega)
      | (refine chk_no ?_; cases nk <;> simp_all [recOk, recKind]; done)
      | (refine chk_yes ?_; cases nk <;> simp_all [recOk, recKind]; done)

set_option maxRecDepth 100000 in
set_option maxHeartbeats 4000000 in
theorem check_3 (epoch time count target till : Int) (root name : ByteArray) (w : World) (hname : name.size ≤ 1073741824) (hf : Fits epoch) :
    Calls Tryz.prog 228 #[.agg #[.int .i64 3, .int .i64 epoch, .int .i64 time, .int .i64 count, .int .i64 target, .int .i64 till, .string root, .string name]] w
      fun e w' => e = .returned (.int .i64 (chkI ⟨3, epoch, time, count, target, till, root, name⟩)) ∧ Below w.heap.size w w' := by
  have z1 := isEmpty_size root
  have z2 := isEmpty_size name
  obtain ⟨E1, hE1⟩ : ∃ E1 : Int, wrap64 (epoch - 1) = E1 := ⟨_, rfl⟩
  have hE2 : epoch = -9223372036854775808 ∨ E1 = epoch - 1 := by
    by_cases h : epoch = -9223372036854775808
    · exact .inl h
    · rw [← hE1, IntWalk.wrap64_in _ (by have := hf.1; have := hf.2; omega)]; exact .inr rfl
  have HE1 := Lib.hid hE1; clear hE1
  have HE2 := Lib.hid hE2; clear hE2
  obtain ⟨B, hB⟩ : ∃ B : Bool, ((decide (0 ≤ target) && decide (target ≤ E1)) && nameOk name.data.toList) = B := ⟨_, rfl⟩
  obtain ⟨nk, hn⟩ : ∃ b : Bool, nameOk name.data.toList = b := ⟨_, rfl⟩
  have HB := Lib.hid hB; clear hB
  have HN := Lib.hid hn; clear hn
  cases B
  all_goals
    go_enter Tryz.func228, Tryz.ntmps228
    go_wp2_with fail
    refine (rest_3 epoch time count target till root name _ hname E1 HE1.out).mono ?_
    rintro e w1 ⟨rfl, hb1⟩
    rw [HB.out]
    have hz : w.heap.size < w1.heap.size := by have := hb1.size; simp at this; omega
    have hz2 : ¬ w.heap.size = w1.heap.size := by omega
    have q1 : w1.cell? ⟨w.heap.size, 1, none⟩ = some (.int .i64 epoch) := by rw [hb1.cell (by simp)]; simp
    have q2 : w1.cell? ⟨w.heap.size, 2, none⟩ = some (.int .i64 time) := by rw [hb1.cell (by simp)]; simp
    have Hb := Lib.hid hb1; clear hb1
    go_wp2_with (go_at_call 315; refine (within_walk _ _ _).mono ?_; rintro e w1 ⟨rfl, rfl⟩)
    all_goals go_ret
    all_goals refine ⟨ret_i ?_, ?_⟩
    all_goals first
      | (have hb' := Hb.out; refine ((Below.refl w.heap.size w).alloc (Nat.le_refl _) _).trans (hb'.mono (by simp)) |>.alloc ?_ _; have := hb'.size; simp at this ⊢; omega)
      | skip
    all_goals
      have hb := HB.out
      have hn := HN.out
      have he2 := HE2.out
      try simp only [size_empty, Bool.not_eq_true', Bool.not_eq_false', Bool.and_eq_true, Bool.and_eq_false_iff, decide_eq_false_iff_not, decide_eq_true_eq] at *
      first
      | (refine chk_no ?_; clear hb hn he2 HB HN HE1 HE2; simp [recOk, recKind, *]; done)
      | (refine chk_no ?_; cases nk <;> simp [recOk, recKind, hn] at hb ⊢ <;> simp only [size_empty] at * <;> omega)
      | (refine chk_yes ?_; cases nk <;> simp [recOk, recKind, hn] at hb ⊢ <;> simp only [size_empty] at * <;> omega)
      | (refine chk_no ?_; cases nk <;> simp_all [recOk, recKind] <;> (try simp only [size_empty] at *) <;> omega)
      | (refine chk_yes ?_; cases nk <;> simp_all [recOk, recKind] <;> (try simp only [size_empty] at *) <;> omega)
      | (refine chk_no ?_; cases nk <;> simp_all [recOk, recKind]; done)
      | (refine chk_yes ?_; cases nk <;> simp_all [recOk, recKind]; done)

set_option maxRecDepth 100000 in
set_option maxHeartbeats 4000000 in
theorem check_4 (epoch time count target till : Int) (root name : ByteArray) (w : World) (hname : name.size ≤ 1073741824) (hf : Fits epoch) :
    Calls Tryz.prog 228 #[.agg #[.int .i64 4, .int .i64 epoch, .int .i64 time, .int .i64 count, .int .i64 target, .int .i64 till, .string root, .string name]] w
      fun e w' => e = .returned (.int .i64 (chkI ⟨4, epoch, time, count, target, till, root, name⟩)) ∧ Below w.heap.size w w' := by
  have z1 := isEmpty_size root
  have z2 := isEmpty_size name
  obtain ⟨E1, hE1⟩ : ∃ E1 : Int, wrap64 (epoch - 1) = E1 := ⟨_, rfl⟩
  have hE2 : epoch = -9223372036854775808 ∨ E1 = epoch - 1 := by
    by_cases h : epoch = -9223372036854775808
    · exact .inl h
    · rw [← hE1, IntWalk.wrap64_in _ (by have := hf.1; have := hf.2; omega)]; exact .inr rfl
  have HE1 := Lib.hid hE1; clear hE1
  have HE2 := Lib.hid hE2; clear hE2
  obtain ⟨B, hB⟩ : ∃ B : Bool, (nameOk name.data.toList) = B := ⟨_, rfl⟩
  obtain ⟨nk, hn⟩ : ∃ b : Bool, nameOk name.data.toList = b := ⟨_, rfl⟩
  have HB := Lib.hid hB; clear hB
  have HN := Lib.hid hn; clear hn
  cases B
  all_goals
    go_enter Tryz.func228, Tryz.ntmps228
    go_wp2_with fail
    refine (rest_4 epoch time count target till root name _ hname E1 HE1.out).mono ?_
    rintro e w1 ⟨rfl, hb1⟩
    rw [HB.out]
    have hz : w.heap.size < w1.heap.size := by have := hb1.size; simp at this; omega
    have hz2 : ¬ w.heap.size = w1.heap.size := by omega
    have q1 : w1.cell? ⟨w.heap.size, 1, none⟩ = some (.int .i64 epoch) := by rw [hb1.cell (by simp)]; simp
    have q2 : w1.cell? ⟨w.heap.size, 2, none⟩ = some (.int .i64 time) := by rw [hb1.cell (by simp)]; simp
    have Hb := Lib.hid hb1; clear hb1
    go_wp2_with (go_at_call 315; refine (within_walk _ _ _).mono ?_; rintro e w1 ⟨rfl, rfl⟩)
    all_goals go_ret
    all_goals refine ⟨ret_i ?_, ?_⟩
    all_goals first
      | (have hb' := Hb.out; refine ((Below.refl w.heap.size w).alloc (Nat.le_refl _) _).trans (hb'.mono (by simp)) |>.alloc ?_ _; have := hb'.size; simp at this ⊢; omega)
      | skip
    all_goals
      have hb := HB.out
      have hn := HN.out
      have he2 := HE2.out
      try simp only [size_empty, Bool.not_eq_true', Bool.not_eq_false', Bool.and_eq_true, Bool.and_eq_false_iff, decide_eq_false_iff_not, decide_eq_true_eq] at *
      first
      | (refine chk_no ?_; clear hb hn he2 HB HN HE1 HE2; simp [recOk, recKind, *]; done)
      | (refine chk_no ?_; cases nk <;> simp [recOk, recKind, hn] at hb ⊢ <;> simp only [size_empty] at * <;> omega)
      | (refine chk_yes ?_; cases nk <;> simp [recOk, recKind, hn] at hb ⊢ <;> simp only [size_empty] at * <;> omega)
      | (refine chk_no ?_; cases nk <;> simp_all [recOk, recKind] <;> (try simp only [size_empty] at *) <;> omega)
      | (refine chk_yes ?_; cases nk <;> simp_all [recOk, recKind] <;> (try simp only [size_empty] at *) <;> omega)
      | (refine chk_no ?_; cases nk <;> simp_all [recOk, recKind]; done)
      | (refine chk_yes ?_; cases nk <;> simp_all [recOk, recKind]; done)

set_option maxRecDepth 100000 in
set_option maxHeartbeats 4000000 in
theorem check_o (kind epoch time count target till : Int) (root name : ByteArray) (w : World) (hname : name.size ≤ 1073741824) (hf : Fits epoch) (k1 : ¬ kind = 1) (k2 : ¬ kind = 2) (k5 : ¬ kind = 5) (k3 : ¬ kind = 3) (k4 : ¬ kind = 4) :
    Calls Tryz.prog 228 #[.agg #[.int .i64 kind, .int .i64 epoch, .int .i64 time, .int .i64 count, .int .i64 target, .int .i64 till, .string root, .string name]] w
      fun e w' => e = .returned (.int .i64 (chkI ⟨kind, epoch, time, count, target, till, root, name⟩)) ∧ Below w.heap.size w w' := by
  have z1 := isEmpty_size root
  have z2 := isEmpty_size name
  obtain ⟨E1, hE1⟩ : ∃ E1 : Int, wrap64 (epoch - 1) = E1 := ⟨_, rfl⟩
  have hE2 : epoch = -9223372036854775808 ∨ E1 = epoch - 1 := by
    by_cases h : epoch = -9223372036854775808
    · exact .inl h
    · rw [← hE1, IntWalk.wrap64_in _ (by have := hf.1; have := hf.2; omega)]; exact .inr rfl
  have HE1 := Lib.hid hE1; clear hE1
  have HE2 := Lib.hid hE2; clear hE2
  obtain ⟨B, hB⟩ : ∃ B : Bool, (false) = B := ⟨_, rfl⟩
  obtain ⟨nk, hn⟩ : ∃ b : Bool, nameOk name.data.toList = b := ⟨_, rfl⟩
  have HB := Lib.hid hB; clear hB
  have HN := Lib.hid hn; clear hn
  cases B
  all_goals
    go_enter Tryz.func228, Tryz.ntmps228
    go_wp2_with fail
    refine (rest_o kind epoch time count target till root name _ hname E1 HE1.out k1 k2 k5 k3 k4).mono ?_
    rintro e w1 ⟨rfl, hb1⟩
    skip
    have hz : w.heap.size < w1.heap.size := by have := hb1.size; simp at this; omega
    have hz2 : ¬ w.heap.size = w1.heap.size := by omega
    have q1 : w1.cell? ⟨w.heap.size, 1, none⟩ = some (.int .i64 epoch) := by rw [hb1.cell (by simp)]; simp
    have q2 : w1.cell? ⟨w.heap.size, 2, none⟩ = some (.int .i64 time) := by rw [hb1.cell (by simp)]; simp
    have Hb := Lib.hid hb1; clear hb1
    go_wp2_with (go_at_call 315; refine (within_walk _ _ _).mono ?_; rintro e w1 ⟨rfl, rfl⟩)
    all_goals go_ret
    all_goals refine ⟨ret_i ?_, ?_⟩
    all_goals first
      | (have hb' := Hb.out; refine ((Below.refl w.heap.size w).alloc (Nat.le_refl _) _).trans (hb'.mono (by simp)) |>.alloc ?_ _; have := hb'.size; simp at this ⊢; omega)
      | skip
    all_goals
      have hb := HB.out
      have hn := HN.out
      have he2 := HE2.out
      try simp only [size_empty, Bool.not_eq_true', Bool.not_eq_false', Bool.and_eq_true, Bool.and_eq_false_iff, decide_eq_false_iff_not, decide_eq_true_eq] at *
      first
      | (refine chk_no ?_; clear hb hn he2 HB HN HE1 HE2; simp [recOk, recKind, *]; done)
      | (refine chk_no ?_; cases nk <;> simp [recOk, recKind, hn] at hb ⊢ <;> simp only [size_empty] at * <;> omega)
      | (refine chk_yes ?_; cases nk <;> simp [recOk, recKind, hn] at hb ⊢ <;> simp only [size_empty] at * <;> omega)
      | (refine chk_no ?_; cases nk <;> simp_all [recOk, recKind] <;> (try simp only [size_empty] at *) <;> omega)
      | (refine chk_yes ?_; cases nk <;> simp_all [recOk, recKind] <;> (try simp only [size_empty] at *) <;> omega)
      | (refine chk_no ?_; cases nk <;> simp_all [recOk, recKind]; done)
      | (refine chk_yes ?_; cases nk <;> simp_all [recOk, recKind]; done)
end Go.Proofs.YtppdboadjefieaaGreat
namespace Go.Proofs.YtppdboadjefieaaGreat
open Go Go.RowKit

end Go.Proofs.YtppdboadjefieaaGreat
namespace Go.Proofs.YtppdboadjefieaaGreat
open Go Go.RowKit

def packTo (ws xs : List Int) (k : Nat) : List UInt8 := ((ws.zip xs).take k).flatMap fun p => beBytes p.1.toNat p.2.toNat
def packL (ws xs : List Int) : List UInt8 := (ws.zip xs).flatMap fun p => beBytes p.1.toNat p.2.toNat
theorem packTo_succ (ws xs : List Int) (k : Nat) (a x : Int) (ha : ws[k]? = some a) (hx : xs[k]? = some x) : packTo ws xs (k + 1) = packTo ws xs k ++ beBytes a.toNat x.toNat := by
  have hz : (ws.zip xs)[k]? = some (a, x) := by rw [List.getElem?_zip_eq_some]; exact ⟨ha, hx⟩
  obtain ⟨hk, he⟩ := List.getElem?_eq_some_iff.1 hz
  unfold packTo
  rw [List.take_succ_eq_append_getElem hk, List.flatMap_append, he]
  simp
theorem packTo_all (ws xs : List Int) (h : ws.length = xs.length) : packTo ws xs xs.length = packL ws xs := by
  unfold packTo packL
  rw [List.take_of_length_le (by rw [List.length_zip]; omega)]
structure PackOk (ws xs : List Int) : Prop where
  len : ws.length = xs.length
  each : ∀ (i : Nat) (a x : Int), ws[i]? = some a → xs[i]? = some x → 1 ≤ a ∧ a ≤ 8 ∧ 0 ≤ x ∧ x < 9223372036854775808 ∧ x.toNat < 256 ^ a.toNat
theorem packTo_le {ws xs : List Int} (h : PackOk ws xs) (k : Nat) : (packTo ws xs k).length ≤ 8 * k := by
  induction k with
  | zero => simp [packTo]
  | succ k ih =>
    by_cases hk : k < xs.length
    · obtain ⟨x, hx⟩ : ∃ x, xs[k]? = some x := ⟨_, List.getElem?_eq_getElem hk⟩
      obtain ⟨a, ha⟩ : ∃ x, ws[k]? = some x := ⟨_, List.getElem?_eq_getElem (by rw [h.len]; exact hk)⟩
      rw [packTo_succ _ _ _ _ _ ha hx, List.length_append, beBytes_length]
      have := h.each k a x ha hx
      omega
    · have : packTo ws xs (k + 1) = packTo ws xs k := by
        unfold packTo
        rw [List.take_of_length_le (by rw [List.length_zip]; omega), List.take_of_length_le (by rw [List.length_zip]; omega)]
      rw [this]
      omega
theorem IntRow.at {w : World} {v : Value} {xs : List Int} (h : IntRow w v xs) (hne : 0 < xs.length) : ∃ g o c, v = .slice (some ⟨g, o, none⟩) xs.length c ∧ g < w.heap.size ∧ ∀ (j : Nat) (x : Int), xs[j]? = some x → w.cell? ⟨g, o + j, none⟩ = some (.int .i64 x) := by
  rcases h with ⟨rfl, _⟩ | h
  · simp at hne
  · exact h

set_option maxRecDepth 100000 in
set_option maxHeartbeats 1000000 in
theorem opack_walk (v u : Value) (ws xs : List Int) (w : World) (hv : IntRow w v ws) (hu : IntRow w u xs) (hne : 0 < xs.length) (hx : xs.length ≤ 16) (hok : PackOk ws xs) :
    Calls Tryz.prog 214 #[v, u] w fun e w' => ∃ r, e = .returned (.tuple #[.string r, .int .i64 0]) ∧ Txt r (packL ws xs) ∧ Below w.heap.size w w' := by
  obtain ⟨g, o, c, rfl, hg, hc⟩ := hv.at (by rw [hok.len]; exact hne)
  obtain ⟨g', o', c', rfl, hg', hc'⟩ := hu.at hne
  obtain ⟨n, Hn⟩ : ∃ n, Hid (n = xs.length) := ⟨_, rfl⟩
  rw [hok.len, ← Hn.out]
  rw [← Hn.out] at hx hne
  have HO := Lib.hid hok; clear hok
  have HC := Lib.hid hc; clear hc
  have HC' := Lib.hid hc'; clear hc'
  clear hv hu
  go_enter Tryz.func214, Tryz.ntmps214
  go_wp2_with ((with_reducible refine wpList_alloc_new 198 _ zeroBuilder (some 6) ?hgd ?ho ?hd ?_); (case hgd | ho | hd => rfl); (intro b w1 l1 B1 e1 z1))
  have hB1 := Bld.new B1
  have hbel := e1.mono l1
  clear B1 e1 z1
  go_loopw [18] (fun i wr => ∃ k : Nat, k ≤ n ∧ i = .int .i64 k ∧ Bld wr b (packTo ws xs k) ∧ Below w.heap.size w wr) (fun i _ => n - (intOf i).toNat)
  case atStart => exact ⟨0, by omega, rfl, hB1, hbel⟩
  case round =>
    clear hB1 hbel
    obtain ⟨k, hk, rfl, hB, hbel⟩ := hrel
    have HB := Lib.hid hB; clear hB
    by_cases hlt : k < n
    · have hlt' : (k : Int) < n := by omega
      obtain ⟨x, hxk⟩ : ∃ x, xs[k]? = some x := ⟨_, List.getElem?_eq_getElem (by rw [← Hn.out]; exact hlt)⟩
      obtain ⟨a, hak⟩ : ∃ x, ws[k]? = some x := ⟨_, List.getElem?_eq_getElem (by rw [HO.out.len, ← Hn.out]; exact hlt)⟩
      have hcx : wr.cell? ⟨g', o' + k, none⟩ = some (.int .i64 x) := by rw [hbel.cell (by show g' < w.heap.size; exact hg')]; exact HC'.out k x hxk
      have hca : wr.cell? ⟨g, o + k, none⟩ = some (.int .i64 a) := by rw [hbel.cell (by show g < w.heap.size; exact hg)]; exact HC.out k a hak
      obtain ⟨h1, h2, h3, h4, h5⟩ := HO.out.each k a x hak hxk
      obtain ⟨m, rfl⟩ : ∃ m : Nat, x = (m : Int) := ⟨x.toNat, by omega⟩
      obtain ⟨a', rfl⟩ : ∃ m : Nat, a = (m : Int) := ⟨a.toNat, by omega⟩
      have HX := Lib.hid hxk; clear hxk
      have HA := Lib.hid hak; clear hak
      have h0 : (0 : Int) ≤ (k : Int) := by omega
      go_wp2_with fail
      refine (oput m a' _ (by omega) (by omega) (by omega) (fun _ => by simpa using h5)).mono ?_
      rintro e w3 ⟨r, rfl, tr, hb3⟩
      have hB3 := HB.out.below hb3
      have HB3 := Lib.hid hB3; clear hB3
      have sr : r.size ≤ 8 := by rw [tr.size, beBytes_length]; omega
      go_wp2_with fail
      refine (bld_writeString b _ r _ HB3.out (by have := packTo_le HO.out k; omega)).mono ?_
      rintro e w4 ⟨rfl, hB4, hb4⟩
      have HB4 := Lib.hid hB4; clear hB4
      go_wp2_with fail
      go_roundw
      case rel =>
        refine ⟨k + 1, by omega, by go_num, ?_, (hbel.trans (hb3.mono hbel.size)).trans (hb4.mono l1)⟩
        have := HB4.out
        rw [show r.data.toList = _ from tr] at this
        rw [packTo_succ _ _ _ _ _ HA.out HX.out, Int.toNat_natCast, Int.toNat_natCast]
        exact this
      case measure => simp [intOf]; omega
    · obtain rfl : k = n := by omega
      go_wp2_with fail
      refine (bld_string b _ _ HB.out).mono ?_
      rintro e w5 ⟨q, rfl, tq, hb5⟩
      go_wp2_with fail
      go_ret2
      exact ⟨q, rfl, tq.cast (by rw [Hn.out]; exact packTo_all _ _ HO.out.len), hbel.trans (hb5.mono l1)⟩

end Go.Proofs.YtppdboadjefieaaGreat

namespace Go.Proofs.YtppdboadjefieaaGreat
open Go Go.RowKit
set_option maxRecDepth 100000

theorem sizeGeo {g : GeoD} : (Tryz.prog.info? 23).map (·.size) = some g.cells.length := by kernel_rfl
theorem geo_one (g : GeoD) : ∀ v ∈ g.cells, v.oneCell' = true := by intro v hv; simp [GeoD.cells] at hv; rcases hv with rfl | rfl | rfl <;> rfl
set_option maxHeartbeats 1000000 in
theorem geomCheck_walk (g : GeoD) (w : World) (hg : GeoOk g) :
    Calls Tryz.prog 78 #[g.v] w fun e w' => e = .returned (.int .i64 0) ∧ Below w.heap.size w w' := by
  obtain ⟨blocks, lbas, first⟩ := g
  obtain ⟨h1, h2, h3, h4, h5, h6⟩ := hg
  simp only at h1 h2 h3 h4 h5 h6
  have h6' : ¬ (4294967295 : Int) < first := by omega
  clear h6
  go_enter Tryz.func78, Tryz.ntmps78
  go_wp2_with (first
    | ((with_reducible refine wpList_box_new 23 (.tmp 0) (GeoD.cells ⟨blocks, lbas, first⟩) (some 1) ?hgd ?ho ?hd ?hx ?_); (case hgd | ho | hd | hx => rfl); (intro b1 w1 l1 B1 e1 z1); (have c0 := B1.cell (i := 0) rfl); (have c1 := B1.cell (i := 1) rfl); (have c2 := B1.cell (i := 2) rfl))
    | fail)
  go_ret
  exact ⟨rfl, e1.mono l1⟩
theorem geomData_walk (g : GeoD) (w : World) (hg : GeoOk g) :
    Calls Tryz.prog 129 #[g.v] w fun e w' => e = .returned (.int .i64 (g.blocks - 4)) ∧ Below w.heap.size w w' := by
  have h1 := hg.b0
  have h2 := hg.b1
  go_enter Tryz.func129, Tryz.ntmps129
  go_wp2_with (first
    | ((with_reducible refine wpList_box_new 23 (.tmp 0) g.cells (some 1) ?hgd ?ho ?hd ?hx ?_); (case hgd | ho | hd | hx => rfl); (intro b1 w1 l1 B1 e1 z1))
    | ((with_reducible refine wpList_load_met 23 (.tmp 1) b1 0 g.cells _ (some 3) B1.range Tryz.underlying23 rfl sizeGeo ?hg ?ho ?hds ?hx ?_); (case ho | hg | hds | hx => rfl))
    | fail)
  refine (geomCheck_walk g _ hg).mono ?_
  rintro e w2 ⟨rfl, hb2⟩
  have c0 := (B1.below hb2 z1).cell (i := 0) rfl
  go_wp2_with fail
  go_ret
  exact ⟨rfl, (e1.mono l1).trans (hb2.mono (Nat.le_trans l1 (Nat.le_of_lt z1)))⟩
theorem geomPlace_walk (g : GeoD) (i : Int) (w : World) (hg : GeoOk g) (h0 : 0 ≤ i) (h1 : i < g.blocks - 4) :
    Calls Tryz.prog 239 #[g.v, .int .i64 i] w fun e w' => e = .returned (.tuple #[.int .i64 (4 + i), .int .i64 0]) ∧ Below w.heap.size w w' := by
  have h2 := hg.b1
  have hdi : decide (i < 0) = false := decide_eq_false (by omega)
  go_enter Tryz.func239, Tryz.ntmps239
  go_wp2_with (first
    | ((with_reducible refine wpList_box_new 23 (.tmp 0) g.cells (some 2) ?hgd ?ho ?hd ?hx ?_); (case hgd | ho | hd | hx => rfl); (intro b1 w1 l1 B1 e1 z1))
    | ((with_reducible refine wpList_load_met 23 (.tmp 2) b1 0 g.cells _ (some 10) B1.range Tryz.underlying23 rfl sizeGeo ?hg ?ho ?hds ?hx ?_); (case ho | hg | hds | hx => rfl))
    | (rw [hdi]; ((with_reducible refine wpList_load_met 23 (.tmp 2) b1 0 g.cells _ (some 10) B1.range Tryz.underlying23 rfl sizeGeo ?hg ?ho ?hds ?hx ?_); (case ho | hg | hds | hx => rfl)))
    | fail)
  refine (geomData_walk g _ hg).mono ?_
  rintro e w2 ⟨rfl, hb2⟩
  go_wp2_with fail
  go_ret2
  exact ⟨rfl, (e1.mono l1).trans (hb2.mono (Nat.le_trans l1 (Nat.le_of_lt z1)))⟩
theorem geomKey_walk (n : Int) (w : World) (h : 0 ≤ n) :
    Calls Tryz.prog 150 #[.int .i64 n] w fun e w' => e = .returned (.int .i64 (2 + n % 2)) ∧ w = w' := by
  go_enter Tryz.func150, Tryz.ntmps150
  go_wp2_with fail
  go_ret
  exact ⟨by show Ending.returned (.int .i64 (2 + max n 0 % 2)) = _; rw [Int.max_eq_left h], rfl⟩
theorem geomSuper_walk (n : Int) (w : World) (h : 0 ≤ n) :
    Calls Tryz.prog 243 #[.int .i64 n] w fun e w' => e = .returned (.int .i64 (n % 2)) ∧ w = w' := by
  go_enter Tryz.func243, Tryz.ntmps243
  go_wp2_with fail
  go_ret
  exact ⟨by show Ending.returned (.int .i64 (max n 0 % 2)) = _; rw [Int.max_eq_left h], rfl⟩
def widths9 : List Int := [4, 4, 4]
theorem geomWidths_walk (w : World) :
    Calls Tryz.prog 387 #[] w fun e w' => (∃ v, e = .returned v ∧ IntRow w' v widths9) ∧ Below w.heap.size w w' := by
  go_enter Tryz.func387, Tryz.ntmps387
  go_wp2_with fail
  go_ret
  exact ⟨⟨_, rfl, IntRow.blk (xs := widths9) (Blk.new w (widths9.map (Value.int .i64)) _) rfl 3⟩, (Below.refl _ _).alloc (Nat.le_refl _) _⟩
theorem geoPack {g : GeoD} (h : GeoOk g) : PackOk widths9 [g.blocks, g.lbas, g.first] := by
  obtain ⟨h1, h2, h3, h4, h5, h6⟩ := h
  have p4 : (256 : Nat) ^ 4 = 4294967296 := rfl
  refine ⟨rfl, fun i a x ha hx => ?_⟩
  match i, ha, hx with
  | 0, ha, hx => simp [widths9] at ha hx; subst ha; subst hx; simp; omega
  | 1, ha, hx => simp [widths9] at ha hx; subst ha; subst hx; simp; omega
  | 2, ha, hx => simp [widths9] at ha hx; subst ha; subst hx; simp; omega
theorem geoL_pack (g : GeoD) : packL widths9 [g.blocks, g.lbas, g.first] = geoL g := by simp [packL, widths9, geoL]
set_option maxHeartbeats 1000000 in
theorem geomPut_walk (g : GeoD) (w : World) (hg : GeoOk g) :
    Calls Tryz.prog 325 #[g.v] w fun e w' => ∃ r, e = .returned (.tuple #[.string r, .int .i64 0]) ∧ Txt r (geoL g) ∧ Below w.heap.size w w' := by
  go_enter Tryz.func325, Tryz.ntmps325
  go_wp2_with (first
    | ((with_reducible refine wpList_box_new 23 (.tmp 0) g.cells (some 1) ?hgd ?ho ?hd ?hx ?_); (case hgd | ho | hd | hx => rfl); (intro b1 w1 l1 B1 e1 z1))
    | ((with_reducible refine wpList_load_met 23 (.tmp 1) b1 0 g.cells _ (some 5) B1.range Tryz.underlying23 rfl sizeGeo ?hg ?ho ?hds ?hx ?_); (case ho | hg | hds | hx => rfl))
    | fail)
  refine (geomCheck_walk g _ hg).mono ?_
  rintro e w2 ⟨rfl, hb2⟩
  have HB2 := Lib.hid (B1.below hb2 z1)
  have HBE2 := Lib.hid ((e1.mono l1).trans (hb2.mono (Nat.le_trans l1 (Nat.le_of_lt z1))))
  clear hb2 B1 e1
  go_upto_region 4 with fail
  refine wp_region_held_drew (S := fun wx => wx.cell? ⟨b1, 0, none⟩ = some (.int .i64 g.blocks) ∧ wx.cell? ⟨b1, 1, none⟩ = some (.int .i64 g.lbas) ∧ wx.cell? ⟨b1, 2, none⟩ = some (.int .i64 g.first)) (by kernel_rfl) (⟨HB2.out.cell (i := 0) rfl, HB2.out.cell (i := 1) rfl, HB2.out.cell (i := 2) rfl⟩) (fun hHeld => ?_)
  obtain ⟨wd, hwd⟩ : ∃ wd, wd = w2.drew := ⟨_, rfl⟩
  have HBwd : Hid (Blk wd b1 g.cells 23) := Lib.hid (by rw [hwd]; exact HB2.out.drew)
  have HBEwd : Hid (Below w.heap.size w wd) := Lib.hid (by rw [hwd]; exact HBE2.out.drew)
  rw [← hwd]
  rw [← hwd] at hHeld
  clear hwd
  refine wpAnyH_take (i := 1) (v := ?_) rfl (by kernel_rfl) (by kernel_rfl) (by kernel_rfl) (fun _ _ _ h => h) (Or.inl ⟨by rfl, ?_⟩) (by assumption) ?_
  rotate_left
  · intro w hSw; (try dsimp only at hSw); go_simp; first | done | with_reducible rfl
  (try simp only [Act.put, Array.getInternal_eq_getElem, List.getElem_toArray, List.getElem_cons_succ, List.getElem_cons_zero, List.setIfInBounds_toArray, List.set_cons_zero, List.set_cons_succ])
  refine wpAnyH_take (i := 2) (v := ?_) rfl (by kernel_rfl) (by kernel_rfl) (by kernel_rfl) (fun _ _ _ h => h) (Or.inl ⟨by rfl, ?_⟩) (by assumption) ?_
  rotate_left
  · intro w hSw; (try dsimp only at hSw); go_simp; first | done | with_reducible rfl
  (try simp only [Act.put, Array.getInternal_eq_getElem, List.getElem_toArray, List.getElem_cons_succ, List.getElem_cons_zero, List.setIfInBounds_toArray, List.set_cons_zero, List.set_cons_succ])
  refine wpAnyH_take (i := 3) (v := ?_) rfl (by kernel_rfl) (by kernel_rfl) (by kernel_rfl) (fun _ _ _ h => h) (Or.inl ⟨by rfl, ?_⟩) (by assumption) ?_
  rotate_left
  · intro w hSw; (try dsimp only at hSw); go_simp; first | done | with_reducible rfl
  (try simp only [Act.put, Array.getInternal_eq_getElem, List.getElem_toArray, List.getElem_cons_succ, List.getElem_cons_zero, List.setIfInBounds_toArray, List.set_cons_zero, List.set_cons_succ])
  refine wpAnyH_take (i := 4) (v := ?_) rfl (by kernel_rfl) (by kernel_rfl) (by kernel_rfl) (fun _ _ _ h => h) (Or.inl ⟨by rfl, ?_⟩) (by assumption) ?_
  rotate_left
  · intro w hSw; (try dsimp only at hSw); go_simp; first | done | with_reducible rfl
  (try simp only [Act.put, Array.getInternal_eq_getElem, List.getElem_toArray, List.getElem_cons_succ, List.getElem_cons_zero, List.setIfInBounds_toArray, List.set_cons_zero, List.set_cons_succ])
  refine wpAnyH_take (i := 5) (v := ?_) rfl (by kernel_rfl) (by kernel_rfl) (by kernel_rfl) (fun _ _ _ h => h) (Or.inl ⟨by rfl, ?_⟩) (by assumption) ?_
  rotate_left
  · intro w hSw; (try dsimp only at hSw); go_simp; first | done | with_reducible rfl
  (try simp only [Act.put, Array.getInternal_eq_getElem, List.getElem_toArray, List.getElem_cons_succ, List.getElem_cons_zero, List.setIfInBounds_toArray, List.set_cons_zero, List.set_cons_succ])
  refine wpAnyH_take (i := 6) (v := ?_) rfl (by kernel_rfl) (by kernel_rfl) (by kernel_rfl) (fun _ _ _ h => h) (Or.inl ⟨by rfl, ?_⟩) (by assumption) ?_
  rotate_left
  · intro w hSw; (try dsimp only at hSw); go_simp; first | done | with_reducible rfl
  (try simp only [Act.put, Array.getInternal_eq_getElem, List.getElem_toArray, List.getElem_cons_succ, List.getElem_cons_zero, List.setIfInBounds_toArray, List.set_cons_zero, List.set_cons_succ])
  refine wpAnyH_ready (rs := [0, 7]) (by kernel_rfl) (by simp) ?_
  refine AllReadyH.cons rfl (fun K hK => ?_) (AllReadyH.cons rfl (fun K hK => ?_) AllReadyH.nil)
  · go_simp
    refine (geomWidths_walk _).mono ?_
    rintro e wa ⟨⟨vw, rfl, hvw⟩, hb3⟩
    have HBwa := Lib.hid (HBwd.out.below hb3 HBwd.out.lt)
    have HBEwa := Lib.hid (HBEwd.out.trans (hb3.mono HBEwd.out.size))
    have HVWwa := Lib.hid hvw
    skip
    clear hb3 hvw
    (try go_wp2_with fail)
    refine hK.out _ _ (⟨HBwa.out.cell (i := 0) rfl, HBwa.out.cell (i := 1) rfl, HBwa.out.cell (i := 2) rfl⟩) (fun hHeld2 => ?_)
    clear hK K hHeld
    have hHeld := hHeld2
    clear hHeld2
    (try simp only [Act.put, Array.getInternal_eq_getElem, List.getElem_toArray, List.getElem_cons_succ, List.getElem_cons_zero, List.setIfInBounds_toArray, List.set_cons_zero, List.set_cons_succ])
    refine wpAnyH_ready (rs := [7]) (by kernel_rfl) (by simp) ?_
    refine AllReadyH.cons rfl (fun K hK => ?_) AllReadyH.nil
    go_simp
    obtain ⟨wb, hw4⟩ : ∃ w4, w4 = wa.alloc (Obj.cells #[Value.int IntKind.i64 g.blocks, Value.int IntKind.i64 g.lbas, Value.int IntKind.i64 g.first] 3) := ⟨_, rfl⟩
    rw [← hw4]
    have hb4 : Below wa.heap.size wa wb := by rw [hw4]; exact (Below.refl _ _).alloc (Nat.le_refl _) _
    have B4 : Blk wb wa.heap.size [.int .i64 g.blocks, .int .i64 g.lbas, .int .i64 g.first] 3 := by rw [hw4]; exact Blk.new wa _ _
    have HGwb := Lib.hid B4
    have HBwb := Lib.hid (HBwa.out.below hb4 HBwa.out.lt)
    have HBEwb := Lib.hid (HBEwa.out.trans (hb4.mono HBEwa.out.size))
    have HVWwb := Lib.hid (HVWwa.out.below hb4 (Nat.le_refl _))
    clear hb4 B4 hw4
    (try go_wp2_with fail)
    refine hK.out _ _ (⟨HBwb.out.cell (i := 0) rfl, HBwb.out.cell (i := 1) rfl, HBwb.out.cell (i := 2) rfl⟩) (fun hHeld2 => ?_)
    clear hK K hHeld
    have hHeld := hHeld2
    clear hHeld2
    (try simp only [Act.put, Array.getInternal_eq_getElem, List.getElem_toArray, List.getElem_cons_succ, List.getElem_cons_zero, List.setIfInBounds_toArray, List.set_cons_zero, List.set_cons_succ])
    refine wpAnyH_ready (rs := [8]) (by kernel_rfl) (by simp) ?_
    refine AllReadyH.cons rfl (fun K hK => ?_) AllReadyH.nil
    go_simp
    refine (opack_walk _ _ widths9 [g.blocks, g.lbas, g.first] _ HVWwb.out (IntRow.blk (xs := [g.blocks, g.lbas, g.first]) HGwb.out rfl 3) (by show 0 < 3; decide) (by show 3 ≤ 16; decide) (geoPack hg)).mono ?_
    rintro e wp ⟨r, rfl, tr, hb5⟩
    have HBp := Lib.hid (HBwb.out.below hb5 HBwb.out.lt)
    have HBEp := Lib.hid (HBEwb.out.trans (hb5.mono HBEwb.out.size))
    have HTR := Lib.hid tr
    clear hb5 tr
    (try go_wp2_with fail)
    refine hK.out _ _ (⟨HBp.out.cell (i := 0) rfl, HBp.out.cell (i := 1) rfl, HBp.out.cell (i := 2) rfl⟩) (fun hHeld2 => ?_)
    clear hK K hHeld
    have hHeld := hHeld2
    clear hHeld2
    (try simp only [Act.put, Array.getInternal_eq_getElem, List.getElem_toArray, List.getElem_cons_succ, List.getElem_cons_zero, List.setIfInBounds_toArray, List.set_cons_zero, List.set_cons_succ])
    refine wpAnyH_take (i := 9) (v := ?_) rfl (by kernel_rfl) (by kernel_rfl) (by kernel_rfl) (fun _ _ _ h => h) (Or.inl ⟨by rfl, ?_⟩) (by assumption) ?_
    rotate_left
    · intro w hSw; (try dsimp only at hSw); go_simp; first | done | with_reducible rfl
    (try simp only [Act.put, Array.getInternal_eq_getElem, List.getElem_toArray, List.getElem_cons_succ, List.getElem_cons_zero, List.setIfInBounds_toArray, List.set_cons_zero, List.set_cons_succ])
    refine wpAnyH_take (i := 10) (v := ?_) rfl (by kernel_rfl) (by kernel_rfl) (by kernel_rfl) (fun _ _ _ h => h) (Or.inl ⟨by rfl, ?_⟩) (by assumption) ?_
    rotate_left
    · intro w hSw; (try dsimp only at hSw); go_simp; first | done | with_reducible rfl
    (try simp only [Act.put, Array.getInternal_eq_getElem, List.getElem_toArray, List.getElem_cons_succ, List.getElem_cons_zero, List.setIfInBounds_toArray, List.set_cons_zero, List.set_cons_succ])
    refine wpAnyH_take (i := 11) (v := ?_) rfl (by kernel_rfl) (by kernel_rfl) (by kernel_rfl) (fun _ _ _ h => h) (Or.inl ⟨by rfl, ?_⟩) (by assumption) ?_
    rotate_left
    · intro w hSw; (try dsimp only at hSw); go_simp; first | done | with_reducible rfl
    (try simp only [Act.put, Array.getInternal_eq_getElem, List.getElem_toArray, List.getElem_cons_succ, List.getElem_cons_zero, List.setIfInBounds_toArray, List.set_cons_zero, List.set_cons_succ])
    refine wpAnyH_take (i := 12) (v := ?_) rfl (by kernel_rfl) (by kernel_rfl) (by kernel_rfl) (fun _ _ _ h => h) (Or.inl ⟨by rfl, ?_⟩) (by assumption) ?_
    rotate_left
    · intro w hSw; (try dsimp only at hSw); go_simp; first | done | with_reducible rfl
    (try simp only [Act.put, Array.getInternal_eq_getElem, List.getElem_toArray, List.getElem_cons_succ, List.getElem_cons_zero, List.setIfInBounds_toArray, List.set_cons_zero, List.set_cons_succ])
    refine wpAnyH_done (by kernel_rfl) ?_ _
    go_wp2_with fail
    go_ret2
    exact ⟨_, rfl, by rw [← geoL_pack]; exact HTR.out, HBEp.out⟩
  · go_simp
    obtain ⟨wa, hw4⟩ : ∃ w4, w4 = wd.alloc (Obj.cells #[Value.int IntKind.i64 g.blocks, Value.int IntKind.i64 g.lbas, Value.int IntKind.i64 g.first] 3) := ⟨_, rfl⟩
    rw [← hw4]
    have hb4 : Below wd.heap.size wd wa := by rw [hw4]; exact (Below.refl _ _).alloc (Nat.le_refl _) _
    have B4 : Blk wa wd.heap.size [.int .i64 g.blocks, .int .i64 g.lbas, .int .i64 g.first] 3 := by rw [hw4]; exact Blk.new wd _ _
    have HGwa := Lib.hid B4
    have HBwa := Lib.hid (HBwd.out.below hb4 HBwd.out.lt)
    have HBEwa := Lib.hid (HBEwd.out.trans (hb4.mono HBEwd.out.size))
    skip
    clear hb4 B4 hw4
    (try go_wp2_with fail)
    refine hK.out _ _ (⟨HBwa.out.cell (i := 0) rfl, HBwa.out.cell (i := 1) rfl, HBwa.out.cell (i := 2) rfl⟩) (fun hHeld2 => ?_)
    clear hK K hHeld
    have hHeld := hHeld2
    clear hHeld2
    (try simp only [Act.put, Array.getInternal_eq_getElem, List.getElem_toArray, List.getElem_cons_succ, List.getElem_cons_zero, List.setIfInBounds_toArray, List.set_cons_zero, List.set_cons_succ])
    refine wpAnyH_ready (rs := [0]) (by kernel_rfl) (by simp) ?_
    refine AllReadyH.cons rfl (fun K hK => ?_) AllReadyH.nil
    go_simp
    refine (geomWidths_walk _).mono ?_
    rintro e wb ⟨⟨vw, rfl, hvw⟩, hb3⟩
    have HBwb := Lib.hid (HBwa.out.below hb3 HBwa.out.lt)
    have HBEwb := Lib.hid (HBEwa.out.trans (hb3.mono HBEwa.out.size))
    have HVWwb := Lib.hid hvw
    have HGwb := Lib.hid (HGwa.out.below hb3 HGwa.out.lt)
    clear hb3 hvw
    (try go_wp2_with fail)
    refine hK.out _ _ (⟨HBwb.out.cell (i := 0) rfl, HBwb.out.cell (i := 1) rfl, HBwb.out.cell (i := 2) rfl⟩) (fun hHeld2 => ?_)
    clear hK K hHeld
    have hHeld := hHeld2
    clear hHeld2
    (try simp only [Act.put, Array.getInternal_eq_getElem, List.getElem_toArray, List.getElem_cons_succ, List.getElem_cons_zero, List.setIfInBounds_toArray, List.set_cons_zero, List.set_cons_succ])
    refine wpAnyH_ready (rs := [8]) (by kernel_rfl) (by simp) ?_
    refine AllReadyH.cons rfl (fun K hK => ?_) AllReadyH.nil
    go_simp
    refine (opack_walk _ _ widths9 [g.blocks, g.lbas, g.first] _ HVWwb.out (IntRow.blk (xs := [g.blocks, g.lbas, g.first]) HGwb.out rfl 3) (by show 0 < 3; decide) (by show 3 ≤ 16; decide) (geoPack hg)).mono ?_
    rintro e wp ⟨r, rfl, tr, hb5⟩
    have HBp := Lib.hid (HBwb.out.below hb5 HBwb.out.lt)
    have HBEp := Lib.hid (HBEwb.out.trans (hb5.mono HBEwb.out.size))
    have HTR := Lib.hid tr
    clear hb5 tr
    (try go_wp2_with fail)
    refine hK.out _ _ (⟨HBp.out.cell (i := 0) rfl, HBp.out.cell (i := 1) rfl, HBp.out.cell (i := 2) rfl⟩) (fun hHeld2 => ?_)
    clear hK K hHeld
    have hHeld := hHeld2
    clear hHeld2
    (try simp only [Act.put, Array.getInternal_eq_getElem, List.getElem_toArray, List.getElem_cons_succ, List.getElem_cons_zero, List.setIfInBounds_toArray, List.set_cons_zero, List.set_cons_succ])
    refine wpAnyH_take (i := 9) (v := ?_) rfl (by kernel_rfl) (by kernel_rfl) (by kernel_rfl) (fun _ _ _ h => h) (Or.inl ⟨by rfl, ?_⟩) (by assumption) ?_
    rotate_left
    · intro w hSw; (try dsimp only at hSw); go_simp; first | done | with_reducible rfl
    (try simp only [Act.put, Array.getInternal_eq_getElem, List.getElem_toArray, List.getElem_cons_succ, List.getElem_cons_zero, List.setIfInBounds_toArray, List.set_cons_zero, List.set_cons_succ])
    refine wpAnyH_take (i := 10) (v := ?_) rfl (by kernel_rfl) (by kernel_rfl) (by kernel_rfl) (fun _ _ _ h => h) (Or.inl ⟨by rfl, ?_⟩) (by assumption) ?_
    rotate_left
    · intro w hSw; (try dsimp only at hSw); go_simp; first | done | with_reducible rfl
    (try simp only [Act.put, Array.getInternal_eq_getElem, List.getElem_toArray, List.getElem_cons_succ, List.getElem_cons_zero, List.setIfInBounds_toArray, List.set_cons_zero, List.set_cons_succ])
    refine wpAnyH_take (i := 11) (v := ?_) rfl (by kernel_rfl) (by kernel_rfl) (by kernel_rfl) (fun _ _ _ h => h) (Or.inl ⟨by rfl, ?_⟩) (by assumption) ?_
    rotate_left
    · intro w hSw; (try dsimp only at hSw); go_simp; first | done | with_reducible rfl
    (try simp only [Act.put, Array.getInternal_eq_getElem, List.getElem_toArray, List.getElem_cons_succ, List.getElem_cons_zero, List.setIfInBounds_toArray, List.set_cons_zero, List.set_cons_succ])
    refine wpAnyH_take (i := 12) (v := ?_) rfl (by kernel_rfl) (by kernel_rfl) (by kernel_rfl) (fun _ _ _ h => h) (Or.inl ⟨by rfl, ?_⟩) (by assumption) ?_
    rotate_left
    · intro w hSw; (try dsimp only at hSw); go_simp; first | done | with_reducible rfl
    (try simp only [Act.put, Array.getInternal_eq_getElem, List.getElem_toArray, List.getElem_cons_succ, List.getElem_cons_zero, List.setIfInBounds_toArray, List.set_cons_zero, List.set_cons_succ])
    refine wpAnyH_done (by kernel_rfl) ?_ _
    go_wp2_with fail
    go_ret2
    exact ⟨_, rfl, by rw [← geoL_pack]; exact HTR.out, HBEp.out⟩
end Go.Proofs.YtppdboadjefieaaGreat

namespace Go.Proofs.YtppdboadjefieaaGreat
open Go Go.RowKit

section
variable {P : Program} {o : Oper} {a : Act} {w : World} {K : Act → World → Prop} {Q : Exit → Act → World → Prop}
theorem wp_store_all (ty : TypeId) (x y : Operand) (b : Nat) (old cs : List Value) (t : TypeId) (hb : Blk w b old t) (hl : cs.length = old.length)
    (hi : (P.info? ty).map (·.size) = some cs.length) (h1 : ∀ v ∈ cs, v.oneCell' = true)
    (ho : o.op = .store ty x y) (hx : a.eval x = .pointer (some ⟨b, 0, none⟩)) (hy : a.eval y = .agg cs.toArray)
    (h : ∀ w', Blk w' b cs t → Only b w w' → K (a.put o.dst undef) w') : o.wp P a w K Q :=
  wp_store_mid ty x y ho b 0 cs.toArray hx hy (World.there_of hb (by simpa using hl)) (by simpa using hi) (all_oneCell_toArray h1) (by simpa using h _ (hb.setAll cs hl) ((Only.refl b w).setCells cs 0))
end
theorem results_cell1v {fn : Func} {p : Tmp} {ty : TypeId} {cs : List Value} {d : TypeDesc} (h : fn.results = #[.cell p ty]) (tmps : Array Value) (w : World) {b : Nat} (hb : w.rangeAt b 0 cs) (hp : tmps.getD p undef = .pointer (some ⟨b, 0, none⟩))
    (hu : Tryz.prog.underlying ty = some d) (hd : d.isRow = true) (hi : (Tryz.prog.info? ty).map (·.size) = some cs.length) :
    (results fn tmps).run Tryz.prog w = .ok (.agg cs.toArray) w := by
  have e := run_loadVar_mid (P := Tryz.prog) w b 0 ty cs _ hb hu hd hi
  have e0 : (results fn tmps).run Tryz.prog w = ((asAddr (tmps.getD p undef)).run Tryz.prog w).andThen fun a w₁ => (loadVar ty a).run Tryz.prog w₁ := by
    simp only [results, h]
    simp [Sem.run_bind]
  rw [e0, hp]
  simp only [asAddr, Sem.run_pure, Result.andThen_ok, e]
end Go.Proofs.YtppdboadjefieaaGreat

