/- Walk of the documents' Right (chapter 19). -/
import Derived.Test.YtacoibiafpdoaaaWRec1
import Derived.Test.YtacoibiafpdoaaaOpen
import Derived.Test.YtacoibiafpdoaaaRef2
import Derived.Test.YtacoibiafpdoaaaRec
import Derived.OwnWalk
import Derived.RegionTactic
import Derived.ChangeAlike
namespace Go.Proofs.Ytacoibiafpdoaaa
open Go Go.RowKit
set_option linter.unusedVariables false

set_option maxRecDepth 100000 in
set_option maxHeartbeats 4000000 in
theorem right_1 (epoch time count target till : Int) (root name : ByteArray) (w : World) :
    Calls Try.prog 97 #[.agg #[.int .i64 1, .int .i64 epoch, .int .i64 time, .int .i64 count, .int .i64 target, .int .i64 till, .string root, .string name]] w
      fun e w' => e = .returned (.bool (recOk ⟨1, epoch, time, count, target, till, root, name⟩)) ∧ Below w.heap.size w w' := by
  have z1 := isEmpty_size root
  have z2 := isEmpty_size name
  go_enter Try.func97, Try.ntmps97
  go_wp2_with (go_at_call 125; refine (rname_walk _ _).mono ?_; rintro e w1 ⟨rfl, rfl⟩)
  all_goals go_ret
  all_goals refine ⟨ret_b ?_, (Below.refl _ _).alloc (Nat.le_refl _) _⟩
  all_goals first
    | (simp [recOk, recKind]; omega)
    | (simp [recOk, recKind, *]; done)
    | (rw [isEmpty_size]; simp [recOk, recKind]; omega)
    | (rw [isEmpty_size]; simp [recOk, recKind, *]; done)
    | (rw [Bool.eq_iff_iff]; simp [recOk, recKind]; omega)
    | (rw [Bool.eq_iff_iff]; simp [recOk, recKind, *]; omega)
    | (rw [Bool.eq_iff_iff]; simp [recOk, recKind, *]; done)

set_option maxRecDepth 100000 in
set_option maxHeartbeats 4000000 in
theorem right_2 (epoch time count target till : Int) (root name : ByteArray) (w : World) :
    Calls Try.prog 97 #[.agg #[.int .i64 2, .int .i64 epoch, .int .i64 time, .int .i64 count, .int .i64 target, .int .i64 till, .string root, .string name]] w
      fun e w' => e = .returned (.bool (recOk ⟨2, epoch, time, count, target, till, root, name⟩)) ∧ Below w.heap.size w w' := by
  have z1 := isEmpty_size root
  have z2 := isEmpty_size name
  go_enter Try.func97, Try.ntmps97
  go_wp2_with (go_at_call 125; refine (rname_walk _ _).mono ?_; rintro e w1 ⟨rfl, rfl⟩)
  all_goals go_ret
  all_goals refine ⟨ret_b ?_, (Below.refl _ _).alloc (Nat.le_refl _) _⟩
  all_goals first
    | (simp [recOk, recKind]; omega)
    | (simp [recOk, recKind, *]; done)
    | (rw [isEmpty_size]; simp [recOk, recKind]; omega)
    | (rw [isEmpty_size]; simp [recOk, recKind, *]; done)
    | (rw [Bool.eq_iff_iff]; simp [recOk, recKind]; omega)
    | (rw [Bool.eq_iff_iff]; simp [recOk, recKind, *]; omega)
    | (rw [Bool.eq_iff_iff]; simp [recOk, recKind, *]; done)

set_option maxRecDepth 100000 in
set_option maxHeartbeats 4000000 in
theorem right_5 (epoch time count target till : Int) (root name : ByteArray) (w : World) :
    Calls Try.prog 97 #[.agg #[.int .i64 5, .int .i64 epoch, .int .i64 time, .int .i64 count, .int .i64 target, .int .i64 till, .string root, .string name]] w
      fun e w' => e = .returned (.bool (recOk ⟨5, epoch, time, count, target, till, root, name⟩)) ∧ Below w.heap.size w w' := by
  have z1 := isEmpty_size root
  have z2 := isEmpty_size name
  go_enter Try.func97, Try.ntmps97
  go_wp2_with (go_at_call 125; refine (rname_walk _ _).mono ?_; rintro e w1 ⟨rfl, rfl⟩)
  all_goals go_ret
  all_goals refine ⟨ret_b ?_, (Below.refl _ _).alloc (Nat.le_refl _) _⟩
  all_goals first
    | (simp [recOk, recKind]; omega)
    | (simp [recOk, recKind, *]; done)
    | (rw [isEmpty_size]; simp [recOk, recKind]; omega)
    | (rw [isEmpty_size]; simp [recOk, recKind, *]; done)
    | (rw [Bool.eq_iff_iff]; simp [recOk, recKind]; omega)
    | (rw [Bool.eq_iff_iff]; simp [recOk, recKind, *]; omega)
    | (rw [Bool.eq_iff_iff]; simp [recOk, recKind, *]; done)

set_option maxRecDepth 100000 in
set_option maxHeartbeats 4000000 in
theorem right_3 (epoch time count target till : Int) (root name : ByteArray) (w : World) :
    Calls Try.prog 97 #[.agg #[.int .i64 3, .int .i64 epoch, .int .i64 time, .int .i64 count, .int .i64 target, .int .i64 till, .string root, .string name]] w
      fun e w' => e = .returned (.bool (recOk ⟨3, epoch, time, count, target, till, root, name⟩)) ∧ Below w.heap.size w w' := by
  have z1 := isEmpty_size root
  have z2 := isEmpty_size name
  go_enter Try.func97, Try.ntmps97
  go_wp2_with (go_at_call 125; refine (rname_walk _ _).mono ?_; rintro e w1 ⟨rfl, rfl⟩)
  all_goals go_ret
  all_goals refine ⟨ret_b ?_, (Below.refl _ _).alloc (Nat.le_refl _) _⟩
  all_goals first
    | (simp [recOk, recKind]; omega)
    | (simp [recOk, recKind, *]; done)
    | (rw [isEmpty_size]; simp [recOk, recKind]; omega)
    | (rw [isEmpty_size]; simp [recOk, recKind, *]; done)
    | (rw [Bool.eq_iff_iff]; simp [recOk, recKind]; omega)
    | (rw [Bool.eq_iff_iff]; simp [recOk, recKind, *]; omega)
    | (rw [Bool.eq_iff_iff]; simp [recOk, recKind, *]; done)

set_option maxRecDepth 100000 in
set_option maxHeartbeats 4000000 in
theorem right_4 (epoch time count target till : Int) (root name : ByteArray) (w : World) :
    Calls Try.prog 97 #[.agg #[.int .i64 4, .int .i64 epoch, .int .i64 time, .int .i64 count, .int .i64 target, .int .i64 till, .string root, .string name]] w
      fun e w' => e = .returned (.bool (recOk ⟨4, epoch, time, count, target, till, root, name⟩)) ∧ Below w.heap.size w w' := by
  have z1 := isEmpty_size root
  have z2 := isEmpty_size name
  go_enter Try.func97, Try.ntmps97
  go_wp2_with (go_at_call 125; refine (rname_walk _ _).mono ?_; rintro e w1 ⟨rfl, rfl⟩)
  all_goals go_ret
  all_goals refine ⟨ret_b ?_, (Below.refl _ _).alloc (Nat.le_refl _) _⟩
  all_goals first
    | (simp [recOk, recKind]; omega)
    | (simp [recOk, recKind, *]; done)
    | (rw [isEmpty_size]; simp [recOk, recKind]; omega)
    | (rw [isEmpty_size]; simp [recOk, recKind, *]; done)
    | (rw [Bool.eq_iff_iff]; simp [recOk, recKind]; omega)
    | (rw [Bool.eq_iff_iff]; simp [recOk, recKind, *]; omega)
    | (rw [Bool.eq_iff_iff]; simp [recOk, recKind, *]; done)

set_option maxRecDepth 100000 in
set_option maxHeartbeats 4000000 in
theorem right_o (kind epoch time count target till : Int) (root name : ByteArray) (w : World) (k1 : ¬ kind = 1) (k2 : ¬ kind = 2) (k5 : ¬ kind = 5) (k3 : ¬ kind = 3) (k4 : ¬ kind = 4) :
    Calls Try.prog 97 #[.agg #[.int .i64 kind, .int .i64 epoch, .int .i64 time, .int .i64 count, .int .i64 target, .int .i64 till, .string root, .string name]] w
      fun e w' => e = .returned (.bool (recOk ⟨kind, epoch, time, count, target, till, root, name⟩)) ∧ Below w.heap.size w w' := by
  have z1 := isEmpty_size root
  have z2 := isEmpty_size name
  go_enter Try.func97, Try.ntmps97
  go_wp2_with (go_at_call 125; refine (rname_walk _ _).mono ?_; rintro e w1 ⟨rfl, rfl⟩)
  all_goals go_ret
  all_goals refine ⟨ret_b ?_, (Below.refl _ _).alloc (Nat.le_refl _) _⟩
  all_goals first
    | (simp [recOk, recKind]; omega)
    | (simp [recOk, recKind, *]; done)
    | (rw [isEmpty_size]; simp [recOk, recKind]; omega)
    | (rw [isEmpty_size]; simp [recOk, recKind, *]; done)
    | (rw [Bool.eq_iff_iff]; simp [recOk, recKind]; omega)
    | (rw [Bool.eq_iff_iff]; simp [recOk, recKind, *]; omega)
    | (rw [Bool.eq_iff_iff]; simp [recOk, recKind, *]; done)
end Go.Proofs.Ytacoibiafpdoaaa
