/- Walk of record.rest, by kinds. -/
import Derived.Test.YtacoibiafpdoaaaWRec1
import Derived.Test.YtacoibiafpdoaaaOpen
import Derived.Test.YtacoibiafpdoaaaRef2
import Derived.Test.YtacoibiafpdoaaaRec
import Derived.OwnWalk
import Derived.RegionTactic
import Derived.ChangeAlike
namespace Go.Proofs.Ytacoibiafpdoaaa
open Go Go.RowKit
set_option linter.unusedVariables false

set_option maxRecDepth 100000 in
set_option maxHeartbeats 4000000 in
theorem rest_1 (epoch time count target till : Int) (root name : ByteArray) (w : World) (hname : name.size ≤ 1073741824) (E1 : Int) (hE1 : wrap64 (epoch - 1) = E1) :
    Calls Try.prog 148 #[.agg #[.int .i64 1, .int .i64 epoch, .int .i64 time, .int .i64 count, .int .i64 target, .int .i64 till, .string root, .string name]] w
      fun e w' => e = .returned (.tuple #[.agg #[.int .i64 0, .int .i64 0, .int .i64 0, .int .i64 0, .int .i64 target, .int .i64 till, .string ⟨#[]⟩, .string name], .bool ((decide (0 ≤ count) && decide (count ≤ 4096)) && decide (root.size = 32))]) ∧ Below w.heap.size w w' := by
  have z3 : ((root.size : Int) == 32) = decide (root.size = 32) := by rw [Bool.eq_iff_iff]; simp; omega
  go_enter Try.func148, Try.ntmps148
  go_wp2_with (first | (go_at_call 149; refine (within_walk _ _ _).mono ?_; rintro e w1 ⟨rfl, rfl⟩) | (go_at_call 160; refine (name_walk _ _ hname).mono ?_; rintro e w1 ⟨rfl, rfl⟩))
  all_goals go_region
  all_goals go_wp2_with fail
  all_goals (refine bodyPost_ret (v := .tuple #[.agg #[.int .i64 0, .int .i64 0, .int .i64 0, .int .i64 0, .int .i64 target, .int .i64 till, .string ⟨#[]⟩, .string name], .bool ((decide (0 ≤ count) && decide (count ≤ 4096)) && decide (root.size = 32))]) ?_ rfl ⟨rfl, ?_⟩)
  all_goals first
    | (simp [results, Try.results148, go_sem]; done)
    | (simp [results, Try.results148, go_sem]; omega)
    | (simp [results, Try.results148, go_sem, *]; done)
    | skip
  all_goals try (repeat (first | exact Below.refl _ _ | assumption | (with_reducible refine Below.drew ?_) | (with_reducible refine Below.setCell ?_ ?_ _) | (with_reducible refine Below.alloc ?_ ?_ _)))
  all_goals try (simp; done)
  all_goals try (simp; omega)

set_option maxRecDepth 100000 in
set_option maxHeartbeats 4000000 in
theorem rest_2 (epoch time count target till : Int) (root name : ByteArray) (w : World) (hname : name.size ≤ 1073741824) (E1 : Int) (hE1 : wrap64 (epoch - 1) = E1) :
    Calls Try.prog 148 #[.agg #[.int .i64 2, .int .i64 epoch, .int .i64 time, .int .i64 count, .int .i64 target, .int .i64 till, .string root, .string name]] w
      fun e w' => e = .returned (.tuple #[.agg #[.int .i64 0, .int .i64 0, .int .i64 0, .int .i64 count, .int .i64 0, .int .i64 0, .string root, .string name], .bool ((decide (0 ≤ till) && decide (till ≤ 1099511627776)) && (decide (0 ≤ target) && decide (target ≤ E1)))]) ∧ Below w.heap.size w w' := by
  skip
  go_enter Try.func148, Try.ntmps148
  go_wp2_with (first | (go_at_call 149; refine (within_walk _ _ _).mono ?_; rintro e w1 ⟨rfl, rfl⟩) | (go_at_call 160; refine (name_walk _ _ hname).mono ?_; rintro e w1 ⟨rfl, rfl⟩))
  all_goals (go_in; go_wp2_with (first | (go_at_call 149; refine (within_walk _ _ _).mono ?_; rintro e w1 ⟨rfl, rfl⟩) | (go_at_call 160; refine (name_walk _ _ hname).mono ?_; rintro e w1 ⟨rfl, rfl⟩)))
  all_goals go_region
  all_goals go_wp2_with fail
  all_goals (refine bodyPost_ret (v := .tuple #[.agg #[.int .i64 0, .int .i64 0, .int .i64 0, .int .i64 count, .int .i64 0, .int .i64 0, .string root, .string name], .bool ((decide (0 ≤ till) && decide (till ≤ 1099511627776)) && (decide (0 ≤ target) && decide (target ≤ E1)))]) ?_ rfl ⟨rfl, ?_⟩)
  all_goals first
    | (simp [results, Try.results148, go_sem]; done)
    | (simp [results, Try.results148, go_sem]; omega)
    | (simp [results, Try.results148, go_sem, *]; done)
    | skip
  all_goals try (repeat (first | exact Below.refl _ _ | assumption | (with_reducible refine Below.drew ?_) | (with_reducible refine Below.setCell ?_ ?_ _) | (with_reducible refine Below.alloc ?_ ?_ _)))
  all_goals try (simp; done)
  all_goals try (simp; omega)

set_option maxRecDepth 100000 in
set_option maxHeartbeats 4000000 in
theorem rest_5 (epoch time count target till : Int) (root name : ByteArray) (w : World) (hname : name.size ≤ 1073741824) (E1 : Int) (hE1 : wrap64 (epoch - 1) = E1) :
    Calls Try.prog 148 #[.agg #[.int .i64 5, .int .i64 epoch, .int .i64 time, .int .i64 count, .int .i64 target, .int .i64 till, .string root, .string name]] w
      fun e w' => e = .returned (.tuple #[.agg #[.int .i64 0, .int .i64 0, .int .i64 0, .int .i64 count, .int .i64 0, .int .i64 0, .string root, .string name], .bool ((decide (0 ≤ till) && decide (till ≤ 1099511627776)) && (decide (0 ≤ target) && decide (target ≤ E1)))]) ∧ Below w.heap.size w w' := by
  skip
  go_enter Try.func148, Try.ntmps148
  go_wp2_with (first | (go_at_call 149; refine (within_walk _ _ _).mono ?_; rintro e w1 ⟨rfl, rfl⟩) | (go_at_call 160; refine (name_walk _ _ hname).mono ?_; rintro e w1 ⟨rfl, rfl⟩))
  all_goals (go_in; go_wp2_with (first | (go_at_call 149; refine (within_walk _ _ _).mono ?_; rintro e w1 ⟨rfl, rfl⟩) | (go_at_call 160; refine (name_walk _ _ hname).mono ?_; rintro e w1 ⟨rfl, rfl⟩)))
  all_goals go_region
  all_goals go_wp2_with fail
  all_goals (refine bodyPost_ret (v := .tuple #[.agg #[.int .i64 0, .int .i64 0, .int .i64 0, .int .i64 count, .int .i64 0, .int .i64 0, .string root, .string name], .bool ((decide (0 ≤ till) && decide (till ≤ 1099511627776)) && (decide (0 ≤ target) && decide (target ≤ E1)))]) ?_ rfl ⟨rfl, ?_⟩)
  all_goals first
    | (simp [results, Try.results148, go_sem]; done)
    | (simp [results, Try.results148, go_sem]; omega)
    | (simp [results, Try.results148, go_sem, *]; done)
    | skip
  all_goals try (repeat (first | exact Below.refl _ _ | assumption | (with_reducible refine Below.drew ?_) | (with_reducible refine Below.setCell ?_ ?_ _) | (with_reducible refine Below.alloc ?_ ?_ _)))
  all_goals try (simp; done)
  all_goals try (simp; omega)

set_option maxRecDepth 100000 in
set_option maxHeartbeats 4000000 in
theorem rest_3 (epoch time count target till : Int) (root name : ByteArray) (w : World) (hname : name.size ≤ 1073741824) (E1 : Int) (hE1 : wrap64 (epoch - 1) = E1) :
    Calls Try.prog 148 #[.agg #[.int .i64 3, .int .i64 epoch, .int .i64 time, .int .i64 count, .int .i64 target, .int .i64 till, .string root, .string name]] w
      fun e w' => e = .returned (.tuple #[.agg #[.int .i64 0, .int .i64 0, .int .i64 0, .int .i64 count, .int .i64 0, .int .i64 till, .string root, .string ⟨#[]⟩], .bool ((decide (0 ≤ target) && decide (target ≤ E1)) && nameOk name.data.toList)]) ∧ Below w.heap.size w w' := by
  skip
  go_enter Try.func148, Try.ntmps148
  go_wp2_with (first | (go_at_call 149; refine (within_walk _ _ _).mono ?_; rintro e w1 ⟨rfl, rfl⟩) | (go_at_call 160; refine (name_walk _ _ hname).mono ?_; rintro e w1 ⟨rfl, rfl⟩))
  all_goals (go_in; go_wp2_with (first | (go_at_call 149; refine (within_walk _ _ _).mono ?_; rintro e w1 ⟨rfl, rfl⟩) | (go_at_call 160; refine (name_walk _ _ hname).mono ?_; rintro e w1 ⟨rfl, rfl⟩)))
  all_goals go_region
  all_goals go_wp2_with fail
  all_goals (refine bodyPost_ret (v := .tuple #[.agg #[.int .i64 0, .int .i64 0, .int .i64 0, .int .i64 count, .int .i64 0, .int .i64 till, .string root, .string ⟨#[]⟩], .bool ((decide (0 ≤ target) && decide (target ≤ E1)) && nameOk name.data.toList)]) ?_ rfl ⟨rfl, ?_⟩)
  all_goals first
    | (simp [results, Try.results148, go_sem]; done)
    | (simp [results, Try.results148, go_sem]; omega)
    | (simp [results, Try.results148, go_sem, *]; done)
    | skip
  all_goals try (repeat (first | exact Below.refl _ _ | assumption | (with_reducible refine Below.drew ?_) | (with_reducible refine Below.setCell ?_ ?_ _) | (with_reducible refine Below.alloc ?_ ?_ _)))
  all_goals try (simp; done)
  all_goals try (simp; omega)

set_option maxRecDepth 100000 in
set_option maxHeartbeats 4000000 in
theorem rest_4 (epoch time count target till : Int) (root name : ByteArray) (w : World) (hname : name.size ≤ 1073741824) (E1 : Int) (hE1 : wrap64 (epoch - 1) = E1) :
    Calls Try.prog 148 #[.agg #[.int .i64 4, .int .i64 epoch, .int .i64 time, .int .i64 count, .int .i64 target, .int .i64 till, .string root, .string name]] w
      fun e w' => e = .returned (.tuple #[.agg #[.int .i64 0, .int .i64 0, .int .i64 0, .int .i64 count, .int .i64 target, .int .i64 till, .string root, .string ⟨#[]⟩], .bool (nameOk name.data.toList)]) ∧ Below w.heap.size w w' := by
  skip
  go_enter Try.func148, Try.ntmps148
  go_wp2_with (first | (go_at_call 149; refine (within_walk _ _ _).mono ?_; rintro e w1 ⟨rfl, rfl⟩) | (go_at_call 160; refine (name_walk _ _ hname).mono ?_; rintro e w1 ⟨rfl, rfl⟩))
  all_goals go_region
  all_goals go_wp2_with fail
  all_goals (refine bodyPost_ret (v := .tuple #[.agg #[.int .i64 0, .int .i64 0, .int .i64 0, .int .i64 count, .int .i64 target, .int .i64 till, .string root, .string ⟨#[]⟩], .bool (nameOk name.data.toList)]) ?_ rfl ⟨rfl, ?_⟩)
  all_goals first
    | (simp [results, Try.results148, go_sem]; done)
    | (simp [results, Try.results148, go_sem]; omega)
    | (simp [results, Try.results148, go_sem, *]; done)
    | skip
  all_goals try (repeat (first | exact Below.refl _ _ | assumption | (with_reducible refine Below.drew ?_) | (with_reducible refine Below.setCell ?_ ?_ _) | (with_reducible refine Below.alloc ?_ ?_ _)))
  all_goals try (simp; done)
  all_goals try (simp; omega)

set_option maxRecDepth 100000 in
set_option maxHeartbeats 4000000 in
theorem rest_o (kind epoch time count target till : Int) (root name : ByteArray) (w : World) (hname : name.size ≤ 1073741824) (E1 : Int) (hE1 : wrap64 (epoch - 1) = E1) (k1 : ¬ kind = 1) (k2 : ¬ kind = 2) (k5 : ¬ kind = 5) (k3 : ¬ kind = 3) (k4 : ¬ kind = 4) :
    Calls Try.prog 148 #[.agg #[.int .i64 kind, .int .i64 epoch, .int .i64 time, .int .i64 count, .int .i64 target, .int .i64 till, .string root, .string name]] w
      fun e w' => e = .returned (.tuple #[.agg #[.int .i64 0, .int .i64 0, .int .i64 0, .int .i64 count, .int .i64 target, .int .i64 till, .string root, .string name], .bool (false)]) ∧ Below w.heap.size w w' := by
  skip
  go_enter Try.func148, Try.ntmps148
  go_wp2_with (first | (go_at_call 149; refine (within_walk _ _ _).mono ?_; rintro e w1 ⟨rfl, rfl⟩) | (go_at_call 160; refine (name_walk _ _ hname).mono ?_; rintro e w1 ⟨rfl, rfl⟩))
  all_goals go_region
  all_goals go_wp2_with fail
  all_goals (refine bodyPost_ret (v := .tuple #[.agg #[.int .i64 0, .int .i64 0, .int .i64 0, .int .i64 count, .int .i64 target, .int .i64 till, .string root, .string name], .bool (false)]) ?_ rfl ⟨rfl, ?_⟩)
  all_goals first
    | (simp [results, Try.results148, go_sem]; done)
    | (simp [results, Try.results148, go_sem]; omega)
    | (simp [results, Try.results148, go_sem, *]; done)
    | skip
  all_goals try (repeat (first | exact Below.refl _ _ | assumption | (with_reducible refine Below.drew ?_) | (with_reducible refine Below.setCell ?_ ?_ _) | (with_reducible refine Below.alloc ?_ ?_ _)))
  all_goals try (simp; done)
  all_goals try (simp; omega)
end Go.Proofs.Ytacoibiafpdoaaa
