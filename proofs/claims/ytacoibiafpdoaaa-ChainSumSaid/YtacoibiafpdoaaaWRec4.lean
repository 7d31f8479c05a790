/- Walk of record.Check. -/
import Derived.Test.YtacoibiafpdoaaaWRec2
import Derived.Test.YtacoibiafpdoaaaOpen
import Derived.Test.YtacoibiafpdoaaaRef2
import Derived.Test.YtacoibiafpdoaaaRec
import Derived.OwnWalk
import Derived.RegionTactic
import Derived.ChangeAlike
namespace Go.Proofs.Ytacoibiafpdoaaa
open Go Go.RowKit
set_option linter.unusedVariables false

def chkI (r : Rec) : Int := if recOk r then 0 else 2
theorem chk_no {r : Rec} (h : recOk r = false) : (2 : Int) = chkI r := by unfold chkI; rw [h]; rfl
theorem chk_yes {r : Rec} (h : recOk r = true) : (0 : Int) = chkI r := by unfold chkI; rw [h]; rfl
theorem size_empty (s : ByteArray) : s = ByteArray.empty ↔ s.size = 0 := by
  constructor
  · rintro rfl; rfl
  · intro h
    have : s.data.toList = [] := List.eq_nil_of_length_eq_zero h
    exact (Txt.self s).eq (show Txt ByteArray.empty s.data.toList by rw [this]; rfl)
theorem bcell {W w1 : World} (hb : Below W.heap.size W w1) : (∀ b o, b < W.heap.size → w1.cell? ⟨b, o, none⟩ = W.cell? ⟨b, o, none⟩) ∧ (∀ b o, b < W.heap.size → w1.frozen? ⟨b, o, none⟩ = W.frozen? ⟨b, o, none⟩) :=
  ⟨fun b o h => hb.cell (p := ⟨b, o, none⟩) h, fun b o h => hb.frozen (p := ⟨b, o, none⟩) h⟩

set_option maxRecDepth 100000 in
set_option maxHeartbeats 4000000 in
theorem check_1 (epoch time count target till : Int) (root name : ByteArray) (w : World) (hname : name.size ≤ 1073741824) (hf : Fits epoch) :
    Calls Try.prog 124 #[.agg #[.int .i64 1, .int .i64 epoch, .int .i64 time, .int .i64 count, .int .i64 target, .int .i64 till, .string root, .string name]] w
      fun e w' => e = .returned (.int .i64 (chkI ⟨1, epoch, time, count, target, till, root, name⟩)) ∧ Below w.heap.size w w' := by
  have z1 := isEmpty_size root
  have z2 := isEmpty_size name
  obtain ⟨E1, hE1⟩ : ∃ E1 : Int, wrap64 (epoch - 1) = E1 := ⟨_, rfl⟩
  have hE2 : epoch = -9223372036854775808 ∨ E1 = epoch - 1 := by
    by_cases h : epoch = -9223372036854775808
    · exact .inl h
    · rw [← hE1, IntWalk.wrap64_in _ (by have := hf.1; have := hf.2; omega)]; exact .inr rfl
  have HE1 := Lib.hid hE1; clear hE1
  have HE2 := Lib.hid hE2; clear hE2
  obtain ⟨B, hB⟩ : ∃ B : Bool, ((decide (0 ≤ count) && decide (count ≤ 4096)) && decide (root.size = 32)) = B := ⟨_, rfl⟩
  obtain ⟨nk, hn⟩ : ∃ b : Bool, nameOk name.data.toList = b := ⟨_, rfl⟩
  have HB := Lib.hid hB; clear hB
  have HN := Lib.hid hn; clear hn
  cases B
  all_goals
    go_enter Try.func124, Try.ntmps124
    go_wp2_with fail
    refine (rest_1 epoch time count target till root name _ hname E1 HE1.out).mono ?_
    rintro e w1 ⟨rfl, hb1⟩
    rw [HB.out]
    have hz : w.heap.size < w1.heap.size := by have := hb1.size; simp at this; omega
    have hz2 : ¬ w.heap.size = w1.heap.size := by omega
    have q1 : w1.cell? ⟨w.heap.size, 1, none⟩ = some (.int .i64 epoch) := by rw [hb1.cell (by simp)]; simp
    have q2 : w1.cell? ⟨w.heap.size, 2, none⟩ = some (.int .i64 time) := by rw [hb1.cell (by simp)]; simp
    have Hb := Lib.hid hb1; clear hb1
    go_wp2_with (go_at_call 149; refine (within_walk _ _ _).mono ?_; rintro e w1 ⟨rfl, rfl⟩)
    all_goals go_ret
    all_goals refine ⟨ret_i ?_, ?_⟩
    all_goals first
      | (have hb' := Hb.out; refine ((Below.refl w.heap.size w).alloc (Nat.le_refl _) _).trans (hb'.mono (by simp)) |>.alloc ?_ _; have := hb'.size; simp at this ⊢; omega)
      | skip
    all_goals
      have hb := HB.out
      have hn := HN.out
      have he2 := HE2.out
      try simp only [size_empty, Bool.not_eq_true', Bool.not_eq_false', Bool.and_eq_true, Bool.and_eq_false_iff, decide_eq_false_iff_not, decide_eq_true_eq] at *
      first
      | (refine chk_no ?_; clear hb hn he2 HB HN HE1 HE2; simp [recOk, recKind, *]; done)
      | (refine chk_no ?_; cases nk <;> simp [recOk, recKind, hn] at hb ⊢ <;> simp only [size_empty] at * <;> omega)
      | (refine chk_yes ?_; cases nk <;> simp [recOk, recKind, hn] at hb ⊢ <;> simp only [size_empty] at * <;> omega)
      | (refine chk_no ?_; cases nk <;> simp_all [recOk, recKind] <;> (try simp only [size_empty] at *) <;> omega)
      | (refine chk_yes ?_; cases nk <;> simp_all [recOk, recKind] <;> (try simp only [size_empty] at *) <;> omega)
      | (refine chk_no ?_; cases nk <;> simp_all [recOk, recKind]; done)
      | (refine chk_yes ?_; cases nk <;> simp_all [recOk, recKind]; done)

set_option maxRecDepth 100000 in
set_option maxHeartbeats 4000000 in
theorem check_2 (epoch time count target till : Int) (root name : ByteArray) (w : World) (hname : name.size ≤ 1073741824) (hf : Fits epoch) :
    Calls Try.prog 124 #[.agg #[.int .i64 2, .int .i64 epoch, .int .i64 time, .int .i64 count, .int .i64 target, .int .i64 till, .string root, .string name]] w
      fun e w' => e = .returned (.int .i64 (chkI ⟨2, epoch, time, count, target, till, root, name⟩)) ∧ Below w.heap.size w w' := by
  have z1 := isEmpty_size root
  have z2 := isEmpty_size name
  obtain ⟨E1, hE1⟩ : ∃ E1 : Int, wrap64 (epoch - 1) = E1 := ⟨_, rfl⟩
  have hE2 : epoch = -9223372036854775808 ∨ E1 = epoch - 1 := by
    by_cases h : epoch = -9223372036854775808
    · exact .inl h
    · rw [← hE1, IntWalk.wrap64_in _ (by have := hf.1; have := hf.2; omega)]; exact .inr rfl
  have HE1 := Lib.hid hE1; clear hE1
  have HE2 := Lib.hid hE2; clear hE2
  obtain ⟨B, hB⟩ : ∃ B : Bool, ((decide (0 ≤ till) && decide (till ≤ 1099511627776)) && (decide (0 ≤ target) && decide (target ≤ E1))) = B := ⟨_, rfl⟩
  obtain ⟨nk, hn⟩ : ∃ b : Bool, nameOk name.data.toList = b := ⟨_, rfl⟩
  have HB := Lib.hid hB; clear hB
  have HN := Lib.hid hn; clear hn
  cases B
  all_goals
    go_enter Try.func124, Try.ntmps124
    go_wp2_with fail
    refine (rest_2 epoch time count target till root name _ hname E1 HE1.out).mono ?_
    rintro e w1 ⟨rfl, hb1⟩
    rw [HB.out]
    have hz : w.heap.size < w1.heap.size := by have := hb1.size; simp at this; omega
    have hz2 : ¬ w.heap.size = w1.heap.size := by omega
    have q1 : w1.cell? ⟨w.heap.size, 1, none⟩ = some (.int .i64 epoch) := by rw [hb1.cell (by simp)]; simp
    have q2 : w1.cell? ⟨w.heap.size, 2, none⟩ = some (.int .i64 time) := by rw [hb1.cell (by simp)]; simp
    have Hb := Lib.hid hb1; clear hb1
    go_wp2_with (go_at_call 149; refine (within_walk _ _ _).mono ?_; rintro e w1 ⟨rfl, rfl⟩)
    all_goals go_ret
    all_goals refine ⟨ret_i ?_, ?_⟩
    all_goals first
      | (have hb' := Hb.out; refine ((Below.refl w.heap.size w).alloc (Nat.le_refl _) _).trans (hb'.mono (by simp)) |>.alloc ?_ _; have := hb'.size; simp at this ⊢; omega)
      | skip
    all_goals
      have hb := HB.out
      have hn := HN.out
      have he2 := HE2.out
      try simp only [size_empty, Bool.not_eq_true', Bool.not_eq_false', Bool.and_eq_true, Bool.and_eq_false_iff, decide_eq_false_iff_not, decide_eq_true_eq] at *
      first
      | (refine chk_no ?_; clear hb hn he2 HB HN HE1 HE2; simp [recOk, recKind, *]; done)
      | (refine chk_no ?_; cases nk <;> simp [recOk, recKind, hn] at hb ⊢ <;> simp only [size_empty] at * <;> omega)
      | (refine chk_yes ?_; cases nk <;> simp [recOk, recKind, hn] at hb ⊢ <;> simp only [size_empty] at * <;> omega)
      | (refine chk_no ?_; cases nk <;> simp_all [recOk, recKind] <;> (try simp only [size_empty] at *) <;> omega)
      | (refine chk_yes ?_; cases nk <;> simp_all [recOk, recKind] <;> (try simp only [size_empty] at *) <;> omega)
      | (refine chk_no ?_; cases nk <;> simp_all [recOk, recKind]; done)
      | (refine chk_yes ?_; cases nk <;> simp_all [recOk, recKind]; done)

set_option maxRecDepth 100000 in
set_option maxHeartbeats 4000000 in
theorem check_5 (epoch time count target till : Int) (root name : ByteArray) (w : World) (hname : name.size ≤ 1073741824) (hf : Fits epoch) :
    Calls Try.prog 124 #[.agg #[.int .i64 5, .int .i64 epoch, .int .i64 time, .int .i64 count, .int .i64 target, .int .i64 till, .string root, .string name]] w
      fun e w' => e = .returned (.int .i64 (chkI ⟨5, epoch, time, count, target, till, root, name⟩)) ∧ Below w.heap.size w w' := by
  have z1 := isEmpty_size root
  have z2 := isEmpty_size name
  obtain ⟨E1, hE1⟩ : ∃ E1 : Int, wrap64 (epoch - 1) = E1 := ⟨_, rfl⟩
  have hE2 : epoch = -9223372036854775808 ∨ E1 = epoch - 1 := by
    by_cases h : epoch = -9223372036854775808
    · exact .inl h
    · rw [← hE1, IntWalk.wrap64_in _ (by have := hf.1; have := hf.2; omega)]; exact .inr rfl
  have HE1 := Lib.hid hE1; clear hE1
  have HE2 := Lib.hid hE2; clear hE2
  obtain ⟨B, hB⟩ : ∃ B : Bool, ((decide (0 ≤ till) && decide (till ≤ 1099511627776)) && (decide (0 ≤ target) && decide (target ≤ E1))) = B := ⟨_, rfl⟩
  obtain ⟨nk, hn⟩ : ∃ b : Bool, nameOk name.data.toList = b := ⟨_, rfl⟩
  have HB := Lib.hid hB; clear hB
  have HN := Lib.hid hn; clear hn
  cases B
  all_goals
    go_enter Try.func124, Try.ntmps124
    go_wp2_with fail
    refine (rest_5 epoch time count target till root name _ hname E1 HE1.out).mono ?_
    rintro e w1 ⟨rfl, hb1⟩
    rw [HB.out]
    have hz : w.heap.size < w1.heap.size := by have := hb1.size; simp at this; omega
    have hz2 : ¬ w.heap.size = w1.heap.size := by omega
    have q1 : w1.cell? ⟨w.heap.size, 1, none⟩ = some (.int .i64 epoch) := by rw [hb1.cell (by simp)]; simp
    have q2 : w1.cell? ⟨w.heap.size, 2, none⟩ = some (.int .i64 time) := by rw [hb1.cell (by simp)]; simp
    have Hb := Lib.hid hb1; clear hb1
    go_wp2_with (go_at_call 149; refine (within_walk _ _ _).mono ?_; rintro e w1 ⟨rfl, rfl⟩)
    all_goals go_ret
    all_goals refine ⟨ret_i ?_, ?_⟩
    all_goals first
      | (have hb' := Hb.out; refine ((Below.refl w.heap.size w).alloc (Nat.le_refl _) _).trans (hb'.mono (by simp)) |>.alloc ?_ _; have := hb'.size; simp at this ⊢; omega)
      | skip
    all_goals
      have hb := HB.out
      have hn := HN.out
      have he2 := HE2.out
      try simp only [size_empty, Bool.not_eq_true', Bool.not_eq_false', Bool.and_eq_true, Bool.and_eq_false_iff, decide_eq_false_iff_not, decide_eq_true_eq] at *
      first
      | (refine chk_no ?_; clear hb hn he2 HB HN HE1 HE2; simp [recOk, recKind, *]; done)
      | (refine chk_no ?_; cases nk <;> simp [recOk, recKind, hn] at hb ⊢ <;> simp only [size_empty] at * <;> omega)
      | (refine chk_yes ?_; cases nk <;> simp [recOk, recKind, hn] at hb ⊢ <;> simp only [size_empty] at * <;> omega)
      | (refine chk_no ?_; cases nk <;> simp_all [recOk, recKind] <;> (try simp only [size_empty] at *) <;> omega)
      | (refine chk_yes ?_; cases nk <;> simp_all [recOk, recKind] <;> (try simp only [size_empty] at *) <;> omega)
      | (refine chk_no ?_; cases nk <;> simp_all [recOk, recKind]; done)
      | (refine chk_yes ?_; cases nk <;> simp_all [recOk, recKind]; done)

set_option maxRecDepth 100000 in
set_option maxHeartbeats 4000000 in
theorem check_3 (epoch time count target till : Int) (root name : ByteArray) (w : World) (hname : name.size ≤ 1073741824) (hf : Fits epoch) :
    Calls Try.prog 124 #[.agg #[.int .i64 3, .int .i64 epoch, .int .i64 time, .int .i64 count, .int .i64 target, .int .i64 till, .string root, .string name]] w
      fun e w' => e = .returned (.int .i64 (chkI ⟨3, epoch, time, count, target, till, root, name⟩)) ∧ Below w.heap.size w w' := by
  have z1 := isEmpty_size root
  have z2 := isEmpty_size name
  obtain ⟨E1, hE1⟩ : ∃ E1 : Int, wrap64 (epoch - 1) = E1 := ⟨_, rfl⟩
  have hE2 : epoch = -9223372036854775808 ∨ E1 = epoch - 1 := by
    by_cases h : epoch = -9223372036854775808
    · exact .inl h
    · rw [← hE1, IntWalk.wrap64_in _ (by have := hf.1; have := hf.2; omega)]; exact .inr rfl
  have HE1 := Lib.hid hE1; clear hE1
  have HE2 := Lib.hid hE2; clear hE2
  obtain ⟨B, hB⟩ : ∃ B : Bool, ((decide (0 ≤ target) && decide (target ≤ E1)) && nameOk name.data.toList) = B := ⟨_, rfl⟩
  obtain ⟨nk, hn⟩ : ∃ b : Bool, nameOk name.data.toList = b := ⟨_, rfl⟩
  have HB := Lib.hid hB; clear hB
  have HN := Lib.hid hn; clear hn
  cases B
  all_goals
    go_enter Try.func124, Try.ntmps124
    go_wp2_with fail
    refine (rest_3 epoch time count target till root name _ hname E1 HE1.out).mono ?_
    rintro e w1 ⟨rfl, hb1⟩
    rw [HB.out]
    have hz : w.heap.size < w1.heap.size := by have := hb1.size; simp at this; omega
    have hz2 : ¬ w.heap.size = w1.heap.size := by omega
    have q1 : w1.cell? ⟨w.heap.size, 1, none⟩ = some (.int .i64 epoch) := by rw [hb1.cell (by simp)]; simp
    have q2 : w1.cell? ⟨w.heap.size, 2, none⟩ = some (.int .i64 time) := by rw [hb1.cell (by simp)]; simp
    have Hb := Lib.hid hb1; clear hb1
    go_wp2_with (go_at_call 149; refine (within_walk _ _ _).mono ?_; rintro e w1 ⟨rfl, rfl⟩)
    all_goals go_ret
    all_goals refine ⟨ret_i ?_, ?_⟩
    all_goals first
      | (have hb' := Hb.out; refine ((Below.refl w.heap.size w).alloc (Nat.le_refl _) _).trans (hb'.mono (by simp)) |>.alloc ?_ _; have := hb'.size; simp at this ⊢; omega)
      | skip
    all_goals
      have hb := HB.out
      have hn := HN.out
      have he2 := HE2.out
      try simp only [size_empty, Bool.not_eq_true', Bool.not_eq_false', Bool.and_eq_true, Bool.and_eq_false_iff, decide_eq_false_iff_not, decide_eq_true_eq] at *
      first
      | (refine chk_no ?_; clear hb hn he2 HB HN HE1 HE2; simp [recOk, recKind, *]; done)
      | (refine chk_no ?_; cases nk <;> simp [recOk, recKind, hn] at hb ⊢ <;> simp only [size_empty] at * <;> omega)
      | (refine chk_yes ?_; cases nk <;> simp [recOk, recKind, hn] at hb ⊢ <;> simp only [size_empty] at * <;> omega)
      | (refine chk_no ?_; cases nk <;> simp_all [recOk, recKind] <;> (try simp only [size_empty] at *) <;> omega)
      | (refine chk_yes ?_; cases nk <;> simp_all [recOk, recKind] <;> (try simp only [size_empty] at *) <;> omega)
      | (refine chk_no ?_; cases nk <;> simp_all [recOk, recKind]; done)
      | (refine chk_yes ?_; cases nk <;> simp_all [recOk, recKind]; done)

set_option maxRecDepth 100000 in
set_option maxHeartbeats 4000000 in
theorem check_4 (epoch time count target till : Int) (root name : ByteArray) (w : World) (hname : name.size ≤ 1073741824) (hf : Fits epoch) :
    Calls Try.prog 124 #[.agg #[.int .i64 4, .int .i64 epoch, .int .i64 time, .int .i64 count, .int .i64 target, .int .i64 till, .string root, .string name]] w
      fun e w' => e = .returned (.int .i64 (chkI ⟨4, epoch, time, count, target, till, root, name⟩)) ∧ Below w.heap.size w w' := by
  have z1 := isEmpty_size root
  have z2 := isEmpty_size name
  obtain ⟨E1, hE1⟩ : ∃ E1 : Int, wrap64 (epoch - 1) = E1 := ⟨_, rfl⟩
  have hE2 : epoch = -9223372036854775808 ∨ E1 = epoch - 1 := by
    by_cases h : epoch = -9223372036854775808
    · exact .inl h
    · rw [← hE1, IntWalk.wrap64_in _ (by have := hf.1; have := hf.2; omega)]; exact .inr rfl
  have HE1 := Lib.hid hE1; clear hE1
  have HE2 := Lib.hid hE2; clear hE2
  obtain ⟨B, hB⟩ : ∃ B : Bool, (nameOk name.data.toList) = B := ⟨_, rfl⟩
  obtain ⟨nk, hn⟩ : ∃ b : Bool, nameOk name.data.toList = b := ⟨_, rfl⟩
  have HB := Lib.hid hB; clear hB
  have HN := Lib.hid hn; clear hn
  cases B
  all_goals
    go_enter Try.func124, Try.ntmps124
    go_wp2_with fail
    refine (rest_4 epoch time count target till root name _ hname E1 HE1.out).mono ?_
    rintro e w1 ⟨rfl, hb1⟩
    rw [HB.out]
    have hz : w.heap.size < w1.heap.size := by have := hb1.size; simp at this; omega
    have hz2 : ¬ w.heap.size = w1.heap.size := by omega
    have q1 : w1.cell? ⟨w.heap.size, 1, none⟩ = some (.int .i64 epoch) := by rw [hb1.cell (by simp)]; simp
    have q2 : w1.cell? ⟨w.heap.size, 2, none⟩ = some (.int .i64 time) := by rw [hb1.cell (by simp)]; simp
    have Hb := Lib.hid hb1; clear hb1
    go_wp2_with (go_at_call 149; refine (within_walk _ _ _).mono ?_; rintro e w1 ⟨rfl, rfl⟩)
    all_goals go_ret
    all_goals refine ⟨ret_i ?_, ?_⟩
    all_goals first
      | (have hb' := Hb.out; refine ((Below.refl w.heap.size w).alloc (Nat.le_refl _) _).trans (hb'.mono (by simp)) |>.alloc ?_ _; have := hb'.size; simp at this ⊢; omega)
      | skip
    all_goals
      have hb := HB.out
      have hn := HN.out
      have he2 := HE2.out
      try simp only [size_empty, Bool.not_eq_true', Bool.not_eq_false', Bool.and_eq_true, Bool.and_eq_false_iff, decide_eq_false_iff_not, decide_eq_true_eq] at *
      first
      | (refine chk_no ?_; clear hb hn he2 HB HN HE1 HE2; simp [recOk, recKind, *]; done)
      | (refine chk_no ?_; cases nk <;> simp [recOk, recKind, hn] at hb ⊢ <;> simp only [size_empty] at * <;> omega)
      | (refine chk_yes ?_; cases nk <;> simp [recOk, recKind, hn] at hb ⊢ <;> simp only [size_empty] at * <;> omega)
      | (refine chk_no ?_; cases nk <;> simp_all [recOk, recKind] <;> (try simp only [size_empty] at *) <;> omega)
      | (refine chk_yes ?_; cases nk <;> simp_all [recOk, recKind] <;> (try simp only [size_empty] at *) <;> omega)
      | (refine chk_no ?_; cases nk <;> simp_all [recOk, recKind]; done)
      | (refine chk_yes ?_; cases nk <;> simp_all [recOk, recKind]; done)

set_option maxRecDepth 100000 in
set_option maxHeartbeats 4000000 in
theorem check_o (kind epoch time count target till : Int) (root name : ByteArray) (w : World) (hname : name.size ≤ 1073741824) (hf : Fits epoch) (k1 : ¬ kind = 1) (k2 : ¬ kind = 2) (k5 : ¬ kind = 5) (k3 : ¬ kind = 3) (k4 : ¬ kind = 4) :
    Calls Try.prog 124 #[.agg #[.int .i64 kind, .int .i64 epoch, .int .i64 time, .int .i64 count, .int .i64 target, .int .i64 till, .string root, .string name]] w
      fun e w' => e = .returned (.int .i64 (chkI ⟨kind, epoch, time, count, target, till, root, name⟩)) ∧ Below w.heap.size w w' := by
  have z1 := isEmpty_size root
  have z2 := isEmpty_size name
  obtain ⟨E1, hE1⟩ : ∃ E1 : Int, wrap64 (epoch - 1) = E1 := ⟨_, rfl⟩
  have hE2 : epoch = -9223372036854775808 ∨ E1 = epoch - 1 := by
    by_cases h : epoch = -9223372036854775808
    · exact .inl h
    · rw [← hE1, IntWalk.wrap64_in _ (by have := hf.1; have := hf.2; omega)]; exact .inr rfl
  have HE1 := Lib.hid hE1; clear hE1
  have HE2 := Lib.hid hE2; clear hE2
  obtain ⟨B, hB⟩ : ∃ B : Bool, (false) = B := ⟨_, rfl⟩
  obtain ⟨nk, hn⟩ : ∃ b : Bool, nameOk name.data.toList = b := ⟨_, rfl⟩
  have HB := Lib.hid hB; clear hB
  have HN := Lib.hid hn; clear hn
  cases B
  all_goals
    go_enter Try.func124, Try.ntmps124
    go_wp2_with fail
    refine (rest_o kind epoch time count target till root name _ hname E1 HE1.out k1 k2 k5 k3 k4).mono ?_
    rintro e w1 ⟨rfl, hb1⟩
    skip
    have hz : w.heap.size < w1.heap.size := by have := hb1.size; simp at this; omega
    have hz2 : ¬ w.heap.size = w1.heap.size := by omega
    have q1 : w1.cell? ⟨w.heap.size, 1, none⟩ = some (.int .i64 epoch) := by rw [hb1.cell (by simp)]; simp
    have q2 : w1.cell? ⟨w.heap.size, 2, none⟩ = some (.int .i64 time) := by rw [hb1.cell (by simp)]; simp
    have Hb := Lib.hid hb1; clear hb1
    go_wp2_with (go_at_call 149; refine (within_walk _ _ _).mono ?_; rintro e w1 ⟨rfl, rfl⟩)
    all_goals go_ret
    all_goals refine ⟨ret_i ?_, ?_⟩
    all_goals first
      | (have hb' := Hb.out; refine ((Below.refl w.heap.size w).alloc (Nat.le_refl _) _).trans (hb'.mono (by simp)) |>.alloc ?_ _; have := hb'.size; simp at this ⊢; omega)
      | skip
    all_goals
      have hb := HB.out
      have hn := HN.out
      have he2 := HE2.out
      try simp only [size_empty, Bool.not_eq_true', Bool.not_eq_false', Bool.and_eq_true, Bool.and_eq_false_iff, decide_eq_false_iff_not, decide_eq_true_eq] at *
      first
      | (refine chk_no ?_; clear hb hn he2 HB HN HE1 HE2; simp [recOk, recKind, *]; done)
      | (refine chk_no ?_; cases nk <;> simp [recOk, recKind, hn] at hb ⊢ <;> simp only [size_empty] at * <;> omega)
      | (refine chk_yes ?_; cases nk <;> simp [recOk, recKind, hn] at hb ⊢ <;> simp only [size_empty] at * <;> omega)
      | (refine chk_no ?_; cases nk <;> simp_all [recOk, recKind] <;> (try simp only [size_empty] at *) <;> omega)
      | (refine chk_yes ?_; cases nk <;> simp_all [recOk, recKind] <;> (try simp only [size_empty] at *) <;> omega)
      | (refine chk_no ?_; cases nk <;> simp_all [recOk, recKind]; done)
      | (refine chk_yes ?_; cases nk <;> simp_all [recOk, recKind]; done)
end Go.Proofs.Ytacoibiafpdoaaa
